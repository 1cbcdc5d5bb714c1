/- Plain regions: the canonical form of a set of points of the screen. No program in sight. -/
import Derived.Test.YtmjjepgnciibcaaPlain2
namespace Go.Proofs.Ytmjjepgnciibcaa.Pl

/-- How many points of the row f stand on end, from x on. -/
def runLen (f : Nat → Bool) (x : Nat) : Nat := if x < 16 ∧ f x = true then runLen f (x + 1) + 1 else 0
termination_by 16 - x

theorem runLen_le (f : Nat → Bool) (x : Nat) (hx : x ≤ 16) : x + runLen f x ≤ 16 := by
  induction x using runLen.induct (f := f) with
  | case1 x h ih => rw [runLen, if_pos h]; have := ih (by omega); omega
  | case2 x h => rw [runLen, if_neg h]; omega
theorem runLen_all (f : Nat → Bool) (x : Nat) : ∀ j, x ≤ j → j < x + runLen f x → f j = true := by
  induction x using runLen.induct (f := f) with
  | case1 x h ih =>
    rw [runLen, if_pos h]
    intro j h1 h2
    by_cases e : j = x
    · subst e; exact h.2
    · exact ih j (by omega) (by omega)
  | case2 x h => rw [runLen, if_neg h]; intro j h1 h2; omega
theorem runLen_stop (f : Nat → Bool) (x : Nat) (hs : x + runLen f x < 16) : f (x + runLen f x) = false := by
  induction x using runLen.induct (f := f) with
  | case1 x h ih =>
    rw [runLen, if_pos h] at hs ⊢
    rw [show x + (runLen f (x + 1) + 1) = x + 1 + runLen f (x + 1) by omega]
    exact ih (by omega)
  | case2 x h =>
    rw [runLen, if_neg h] at hs ⊢
    rw [Nat.add_zero]
    cases hf : f x
    · rfl
    · exact absurd ⟨by omega, hf⟩ h
theorem runLen_eq {f : Nat → Bool} {x e : Nat} (h1 : x ≤ e) (h2 : e ≤ 16) (h3 : ∀ j, x ≤ j → j < e → f j = true) (h4 : e < 16 → f e = false) : runLen f x = e - x := by
  have a := runLen_le f x (by omega)
  have b := runLen_all f x
  have c := runLen_stop f x
  rcases Nat.lt_trichotomy (runLen f x) (e - x) with h | h | h
  · have := c (by omega)
    rw [h3 (x + runLen f x) (by omega) (by omega)] at this
    cases this
  · exact h
  · have := b e h1 (by omega)
    rw [h4 (by omega)] at this
    cases this

/-- The maximal runs of the row f from x on: where each begins, and how long it is. -/
def runs (f : Nat → Bool) (x : Nat) : List (Nat × Nat) :=
  if x < 16 then (if runLen f x = 0 then [] else [(x, runLen f x)]) ++ runs f (x + runLen f x + 1) else []
termination_by 16 - x

theorem runs_mem {f : Nat → Bool} {x a n : Nat} (h : (a, n) ∈ runs f x) : x ≤ a ∧ a + n ≤ 16 ∧ 1 ≤ n ∧ ∀ j, a ≤ j → j < a + n → f j = true := by
  induction x using runs.induct (f := f) with
  | case1 x hx ih =>
    rw [runs, if_pos hx] at h
    rcases List.mem_append.1 h with h | h
    · split at h
      · cases h
      · simp only [List.mem_singleton, Prod.mk.injEq] at h
        obtain ⟨rfl, rfl⟩ := h
        exact ⟨Nat.le_refl _, runLen_le f a (by omega), by omega, runLen_all f a⟩
    · obtain ⟨h1, h2⟩ := ih h
      exact ⟨by omega, h2⟩
  | case2 x hx => rw [runs, if_neg hx] at h; cases h
theorem runs_cover {f : Nat → Bool} {x j : Nat} (h1 : x ≤ j) (h2 : j < 16) (h3 : f j = true) : ∃ a n, (a, n) ∈ runs f x ∧ a ≤ j ∧ j < a + n := by
  induction x using runs.induct (f := f) with
  | case1 x hx ih =>
    rw [runs, if_pos hx]
    by_cases hj : j < x + runLen f x
    · refine ⟨x, runLen f x, ?_, h1, hj⟩
      rw [if_neg (by omega)]
      simp
    · have hs := runLen_stop f x
      have : j ≠ x + runLen f x := by
        rintro rfl
        rw [hs h2] at h3
        cases h3
      obtain ⟨a, n, hm, ha⟩ := ih (by omega)
      exact ⟨a, n, List.mem_append.2 (.inr hm), ha⟩
  | case2 x hx => omega

/-- How many points a row has from x on. -/
def cnt (f : Nat → Bool) (x : Nat) : Nat := if x < 16 then (if f x = true then 1 else 0) + cnt f (x + 1) else 0
termination_by 16 - x
theorem cnt_out (f : Nat → Bool) (x : Nat) (h : 16 ≤ x) : cnt f x = 0 := by rw [cnt, if_neg (by omega)]
theorem cnt_run (f : Nat → Bool) (x : Nat) : cnt f x = runLen f x + cnt f (x + runLen f x) := by
  induction x using runLen.induct (f := f) with
  | case1 x h ih =>
    rw [runLen, if_pos h, cnt, if_pos h.1, if_pos h.2, ih, show x + (runLen f (x + 1) + 1) = x + 1 + runLen f (x + 1) by omega]
    omega
  | case2 x h => rw [runLen, if_neg h]; simp
theorem runs_sum (f : Nat → Bool) (x : Nat) : ((runs f x).map (·.2)).sum = cnt f x := by
  induction x using runs.induct (f := f) with
  | case1 x hx ih =>
    have e : ((if runLen f x = 0 then [] else [(x, runLen f x)] : List (Nat × Nat)).map (·.2)).sum = runLen f x := by split <;> simp [*]
    rw [runs, if_pos hx, List.map_append, List.sum_append, ih, e, cnt_run f x]
    congr 1
    by_cases hs : x + runLen f x < 16
    · rw [cnt.eq_def f (x + runLen f x), if_pos hs, runLen_stop f x hs]; simp
    · rw [cnt_out _ _ (by omega), cnt_out _ _ (by omega)]
  | case2 x hx => rw [runs, if_neg hx, cnt, if_neg hx]; rfl

def rowEq (f g : Nat → Bool) : Bool := (List.range 16).all fun x => f x == g x
theorem rowEq_iff {f g : Nat → Bool} : rowEq f g = true ↔ ∀ x, x < 16 → f x = g x := by simp [rowEq, List.all_eq_true]
theorem runLen_congr {f g : Nat → Bool} (h : ∀ x, x < 16 → f x = g x) (x : Nat) : runLen f x = runLen g x := by
  induction x using runLen.induct (f := f) with
  | case1 x hx ih => rw [runLen, if_pos hx, ih, runLen.eq_def g x, if_pos ⟨hx.1, by rw [← h x hx.1]; exact hx.2⟩]
  | case2 x hx => rw [runLen, if_neg hx, runLen, if_neg (fun h' => hx ⟨h'.1, by rw [h x h'.1]; exact h'.2⟩)]
theorem runs_congr {f g : Nat → Bool} (h : ∀ x, x < 16 → f x = g x) (x : Nat) : runs f x = runs g x := by
  induction x using runs.induct (f := f) with
  | case1 x hx ih => rw [runs, if_pos hx, ih, runs.eq_def g x, if_pos hx, runLen_congr h]
  | case2 x hx => rw [runs, if_neg hx, runs, if_neg hx]
theorem cnt_congr {f g : Nat → Bool} (h : ∀ x, x < 16 → f x = g x) (x : Nat) : cnt f x = cnt g x := by
  induction x using cnt.induct with
  | case1 x hx ih => rw [cnt, if_pos hx, ih, cnt.eq_def g x, if_pos hx, h x hx]
  | case2 x hx => rw [cnt, if_neg hx, cnt, if_neg hx]
theorem rowEq_congr {f g f' g' : Nat → Bool} (h : ∀ x, x < 16 → f x = f' x) (k : ∀ x, x < 16 → g x = g' x) : rowEq f g = rowEq f' g' := by
  rw [Bool.eq_iff_iff, rowEq_iff, rowEq_iff]
  constructor
  · intro a x hx; rw [← h x hx, ← k x hx]; exact a x hx
  · intro a x hx; rw [h x hx, k x hx]; exact a x hx

/-- How many rows are like row y, from y on (the first h are known to be). -/
def band (G : Nat → Nat → Bool) (y h : Nat) : Nat := if y + h < 16 ∧ rowEq (G y) (G (y + h)) = true then band G y (h + 1) else h
termination_by 16 - (y + h)
theorem band_ge (G : Nat → Nat → Bool) (y h : Nat) : h ≤ band G y h := by
  induction h using band.induct (G := G) (y := y) with
  | case1 h hx ih => rw [band, if_pos hx]; omega
  | case2 h hx => rw [band, if_neg hx]; omega
theorem band_le (G : Nat → Nat → Bool) (y h : Nat) (h0 : y + h ≤ 16) : y + band G y h ≤ 16 := by
  induction h using band.induct (G := G) (y := y) with
  | case1 h hx ih => rw [band, if_pos hx]; exact ih (by omega)
  | case2 h hx => rw [band, if_neg hx]; omega
theorem band_all (G : Nat → Nat → Bool) (y h : Nat) : ∀ j, h ≤ j → j < band G y h → rowEq (G y) (G (y + j)) = true := by
  induction h using band.induct (G := G) (y := y) with
  | case1 h hx ih =>
    rw [band, if_pos hx]
    intro j h1 h2
    by_cases e : j = h
    · subst e; exact hx.2
    · exact ih j (by omega) h2
  | case2 h hx => rw [band, if_neg hx]; intro j h1 h2; omega
theorem band_stop (G : Nat → Nat → Bool) (y h : Nat) (hs : y + band G y h < 16) : rowEq (G y) (G (y + band G y h)) = false := by
  induction h using band.induct (G := G) (y := y) with
  | case1 h hx ih => rw [band, if_pos hx] at hs ⊢; exact ih hs
  | case2 h hx =>
    rw [band, if_neg hx] at hs ⊢
    cases hf : rowEq (G y) (G (y + h))
    · rfl
    · exact absurd ⟨hs, hf⟩ hx
theorem band_eq {G : Nat → Nat → Bool} {y e : Nat} (h1 : 1 ≤ e) (h2 : y + e ≤ 16) (h3 : ∀ j, 1 ≤ j → j < e → rowEq (G y) (G (y + j)) = true) (h4 : y + e < 16 → rowEq (G y) (G (y + e)) = false) : band G y 1 = e := by
  have a := band_le G y 1 (by omega)
  have b := band_all G y 1
  have c := band_stop G y 1
  have d := band_ge G y 1
  rcases Nat.lt_trichotomy (band G y 1) e with h | h | h
  · have := c (by omega)
    rw [h3 (band G y 1) (by omega) (by omega)] at this
    cases this
  · exact h
  · have := b e h1 (by omega)
    rw [h4 (by omega)] at this
    cases this
theorem band_congr {G H : Nat → Nat → Bool} (h : ∀ y, y < 16 → ∀ x, x < 16 → G y x = H y x) (y k : Nat) (hy : y < 16) : band G y k = band H y k := by
  induction k using band.induct (G := G) (y := y) with
  | case1 k hx ih => rw [band, if_pos hx, ih, band.eq_def H y k, if_pos ⟨hx.1, by rw [← rowEq_congr (h y hy) (h (y + k) hx.1)]; exact hx.2⟩]
  | case2 k hx => rw [band, if_neg hx, band, if_neg (fun h' => hx ⟨h'.1, by rw [rowEq_congr (h y hy) (h (y + k) h'.1)]; exact h'.2⟩)]

/-- The canonical form, from row y on. -/
def canonFrom (G : Nat → Nat → Bool) (y : Nat) : List R :=
  if y < 16 then (runs (G y) 0).map (fun p => ⟨(p.1 : Int), (y : Int), (p.2 : Int), (band G y 1 : Int)⟩) ++ canonFrom G (y + band G y 1) else []
termination_by 16 - y
decreasing_by have := band_ge G y 1; omega
def canon (G : Nat → Nat → Bool) : List R := canonFrom G 0

theorem canonFrom_mem {G : Nat → Nat → Bool} {y0 : Nat} {r : R} (h : r ∈ canonFrom G y0) : ∃ a y n k : Nat, r = ⟨a, y, n, k⟩ ∧ y0 ≤ y ∧ 1 ≤ n ∧ 1 ≤ k ∧ a + n ≤ 16 ∧ y + k ≤ 16 ∧ ∀ j i, y ≤ j → j < y + k → a ≤ i → i < a + n → G j i = true := by
  induction y0 using canonFrom.induct (G := G) with
  | case1 y hy ih =>
    rw [canonFrom, if_pos hy] at h
    rcases List.mem_append.1 h with h | h
    · obtain ⟨⟨a, n⟩, hm, rfl⟩ := List.mem_map.1 h
      obtain ⟨_, h2, h3, h4⟩ := runs_mem hm
      refine ⟨a, y, n, band G y 1, rfl, Nat.le_refl _, h3, band_ge G y 1, h2, band_le G y 1 (by omega), fun j i h5 h6 h7 h8 => ?_⟩
      by_cases e : j = y
      · subst e; exact h4 i h7 h8
      · have hb := rowEq_iff.1 (band_all G y 1 (j - y) (by omega) (by omega)) i (by omega)
        rw [show y + (j - y) = j by omega] at hb
        rw [← hb]
        exact h4 i h7 h8
    · obtain ⟨a, y', n, k, h1, h2, h3⟩ := ih h
      exact ⟨a, y', n, k, h1, by omega, h3⟩
  | case2 y hy => rw [canonFrom, if_neg hy] at h; cases h
theorem canonFrom_cover {G : Nat → Nat → Bool} {y0 j i : Nat} (h1 : y0 ≤ j) (h2 : j < 16) (h3 : i < 16) (h4 : G j i = true) : ∃ a y n k : Nat, (⟨a, y, n, k⟩ : R) ∈ canonFrom G y0 ∧ y ≤ j ∧ j < y + k ∧ a ≤ i ∧ i < a + n := by
  induction y0 using canonFrom.induct (G := G) with
  | case1 y hy ih =>
    rw [canonFrom, if_pos hy]
    by_cases hj : j < y + band G y 1
    · have hrow : G y i = true := by
        by_cases e : j = y
        · subst e; exact h4
        · have hb := rowEq_iff.1 (band_all G y 1 (j - y) (by omega) (by omega)) i h3
          rw [show y + (j - y) = j by omega] at hb
          rw [hb]; exact h4
      obtain ⟨a, n, hm, ha, hb⟩ := runs_cover (Nat.zero_le i) h3 hrow
      exact ⟨a, y, n, band G y 1, List.mem_append.2 (.inl (List.mem_map.2 ⟨(a, n), hm, rfl⟩)), h1, hj, ha, hb⟩
    · obtain ⟨a, y', n, k, hm, hr⟩ := ih (by omega)
      exact ⟨a, y', n, k, List.mem_append.2 (.inr hm), hr⟩
  | case2 y hy => omega
theorem canonFrom_congr {G H : Nat → Nat → Bool} (h : ∀ y, y < 16 → ∀ x, x < 16 → G y x = H y x) (y : Nat) : canonFrom G y = canonFrom H y := by
  induction y using canonFrom.induct (G := G) with
  | case1 y hy ih => rw [canonFrom, if_pos hy, ih, canonFrom.eq_def H y, if_pos hy, runs_congr (h y hy), band_congr h y 1 hy]
  | case2 y hy => rw [canonFrom, if_neg hy, canonFrom, if_neg hy]
theorem canon_congr {G H : Nat → Nat → Bool} (h : ∀ y, y < 16 → ∀ x, x < 16 → G y x = H y x) : canon G = canon H := canonFrom_congr h 0

/-- How many points a grid has from row y on. -/
def total (G : Nat → Nat → Bool) (y : Nat) : Nat := if y < 16 then cnt (G y) 0 + total G (y + 1) else 0
termination_by 16 - y
theorem total_band (G : Nat → Nat → Bool) (y h : Nat) (hy : ∀ j, y ≤ j → j < y + h → ∀ x, x < 16 → G j x = G y x) (hh : y + h ≤ 16) : total G y = h * cnt (G y) 0 + total G (y + h) := by
  induction h with
  | zero => simp
  | succ h ih =>
    have e : total G (y + h) = cnt (G (y + h)) 0 + total G (y + h + 1) := by rw [total, if_pos (by omega)]
    rw [ih (fun j h1 h2 => hy j h1 (by omega)) (by omega), e, cnt_congr (hy (y + h) (by omega) (by omega)) 0, Nat.succ_mul, show y + (h + 1) = y + h + 1 by omega]
    omega
def area (l : List R) : Int := (l.map fun r => r.w * r.h).sum
theorem area_append (a b : List R) : area (a ++ b) = area a + area b := by simp [area]
theorem area_runs (l : List (Nat × Nat)) (y k : Nat) : area (l.map fun p => ⟨(p.1 : Int), (y : Int), (p.2 : Int), (k : Int)⟩) = (((l.map (·.2)).sum * k : Nat) : Int) := by
  induction l with
  | nil => simp [area]
  | cons p l ih =>
    have e : area ((p :: l).map fun p => ⟨(p.1 : Int), (y : Int), (p.2 : Int), (k : Int)⟩) = (p.2 : Int) * k + area (l.map fun p => ⟨(p.1 : Int), (y : Int), (p.2 : Int), (k : Int)⟩) := by simp [area]
    rw [e, ih, List.map_cons, List.sum_cons, Nat.add_mul]
    simp
theorem area_canonFrom (G : Nat → Nat → Bool) (y : Nat) : area (canonFrom G y) = (total G y : Int) := by
  induction y using canonFrom.induct (G := G) with
  | case1 y hy ih =>
    have hb := band_le G y 1 (by omega)
    have ht := total_band G y (band G y 1) (fun j h1 h2 x hx => by
      by_cases e : j = y
      · subst e; rfl
      · have hb := rowEq_iff.1 (band_all G y 1 (j - y) (by omega) (by omega)) x hx
        rw [show y + (j - y) = j by omega] at hb
        exact hb.symm) hb
    rw [canonFrom, if_pos hy, area_append, ih, area_runs, runs_sum, ht, Nat.mul_comm]
    simp
  | case2 y hy => rw [canonFrom, if_neg hy, total, if_neg hy]; rfl
theorem area_canon (G : Nat → Nat → Bool) : area (canon G) = (total G 0 : Int) := area_canonFrom G 0
theorem cnt_or_and (f g : Nat → Bool) (x : Nat) : cnt (fun i => f i || g i) x + cnt (fun i => f i && g i) x = cnt f x + cnt g x := by
  induction x using cnt.induct with
  | case1 x hx ih =>
    rw [cnt, if_pos hx, cnt.eq_def (fun i => f i && g i), if_pos hx, cnt.eq_def f, if_pos hx, cnt.eq_def g, if_pos hx]
    cases f x <;> cases g x <;> simp <;> omega
  | case2 x hx => rw [cnt_out _ _ (by omega), cnt_out _ _ (by omega), cnt_out _ _ (by omega), cnt_out _ _ (by omega)]
theorem cnt_diff_and (f g : Nat → Bool) (x : Nat) : cnt (fun i => f i && !g i) x + cnt (fun i => f i && g i) x = cnt f x := by
  induction x using cnt.induct with
  | case1 x hx ih =>
    rw [cnt, if_pos hx, cnt.eq_def (fun i => f i && g i), if_pos hx, cnt.eq_def f, if_pos hx]
    cases f x <;> cases g x <;> simp <;> omega
  | case2 x hx => rw [cnt_out _ _ (by omega), cnt_out _ _ (by omega), cnt_out _ _ (by omega)]
theorem total_or_and (G H : Nat → Nat → Bool) (y : Nat) : total (fun j i => G j i || H j i) y + total (fun j i => G j i && H j i) y = total G y + total H y := by
  induction y using total.induct with
  | case1 y hy ih =>
    rw [total, if_pos hy, total.eq_def (fun j i => G j i && H j i), if_pos hy, total.eq_def G, if_pos hy, total.eq_def H, if_pos hy]
    have := cnt_or_and (G y) (H y) 0
    omega
  | case2 y hy => rw [total, if_neg hy, total.eq_def (fun j i => G j i && H j i), if_neg hy, total.eq_def G, if_neg hy, total.eq_def H, if_neg hy]
theorem total_diff_and (G H : Nat → Nat → Bool) (y : Nat) : total (fun j i => G j i && !H j i) y + total (fun j i => G j i && H j i) y = total G y := by
  induction y using total.induct with
  | case1 y hy ih =>
    rw [total, if_pos hy, total.eq_def (fun j i => G j i && H j i), if_pos hy, total.eq_def G, if_pos hy]
    have := cnt_diff_and (G y) (H y) 0
    omega
  | case2 y hy => rw [total, if_neg hy, total.eq_def (fun j i => G j i && H j i), if_neg hy, total.eq_def G, if_neg hy]
theorem total_congr {G H : Nat → Nat → Bool} (h : ∀ y, y < 16 → ∀ x, x < 16 → G y x = H y x) (y : Nat) : total G y = total H y := by
  induction y using total.induct with
  | case1 y hy ih => rw [total, if_pos hy, ih, total.eq_def H y, if_pos hy, cnt_congr (h y hy)]
  | case2 y hy => rw [total, if_neg hy, total, if_neg hy]

/-- The points of a list of rectangles. -/
def R.has (r : R) (x y : Int) : Bool := hasPoint r.x r.y r.w r.h x y
def gridL (l : List R) : Nat → Nat → Bool := fun y x => l.any fun r => r.has x y
theorem has_nat {a y n k i j : Nat} (h1 : a + n ≤ 16) (h2 : y + k ≤ 16) : R.has ⟨a, y, n, k⟩ i j = true ↔ a ≤ i ∧ i < a + n ∧ y ≤ j ∧ j < y + k := by
  have hr : rectOk a y n k = true := by simp [rectOk, inB]; omega
  simp [R.has, hasPoint, hr]
  omega
theorem gridL_canon (G : Nat → Nat → Bool) : ∀ y, y < 16 → ∀ x, x < 16 → gridL (canon G) y x = G y x := by
  intro y hy x hx
  rw [Bool.eq_iff_iff]
  unfold gridL
  rw [List.any_eq_true]
  constructor
  · rintro ⟨r, hm, hr⟩
    obtain ⟨a, b, n, k, rfl, _, _, _, h1, h2, h3⟩ := canonFrom_mem hm
    have := (has_nat h1 h2).1 hr
    exact h3 y x (by omega) (by omega) (by omega) (by omega)
  · intro hG
    obtain ⟨a, b, n, k, hm, h1, h2, h3, h4⟩ := canonFrom_cover (Nat.zero_le y) hy hx hG
    obtain ⟨a', b', n', k', e, _, _, _, h5, h6, _⟩ := canonFrom_mem hm
    simp only [R.mk.injEq] at e
    exact ⟨_, hm, (has_nat (by omega) (by omega)).2 ⟨h3, h4, h1, h2⟩⟩
/-- RegionOf, RegionOk. -/
def regionOf (l : List R) : List R := canon (gridL l)
def regionOk (l : List R) : Bool := decide (regionOf l = l)
theorem regionOf_canon (G : Nat → Nat → Bool) : regionOf (canon G) = canon G := canon_congr (gridL_canon G)
theorem regionOk_canon (G : Nat → Nat → Bool) : regionOk (canon G) = true := by simp [regionOk, regionOf_canon]
theorem canon_ok {G : Nat → Nat → Bool} {r : R} (h : r ∈ canon G) : r.ok = true ∧ 0 ≤ r.x ∧ 0 ≤ r.y ∧ 1 ≤ r.w ∧ 1 ≤ r.h ∧ r.x + r.w ≤ 16 ∧ r.y + r.h ≤ 16 := by
  obtain ⟨a, b, n, k, rfl, _, h1, h2, h3, h4, _⟩ := canonFrom_mem h
  refine ⟨by simp [R.ok, rectOk, inB]; omega, ?_⟩
  simp
  omega
end Go.Proofs.Ytmjjepgnciibcaa.Pl
