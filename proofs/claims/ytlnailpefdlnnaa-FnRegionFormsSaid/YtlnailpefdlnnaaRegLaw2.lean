/- Plain laws of regions: equal sets have equal forms; bounds cover. No program in sight. -/
import Derived.Test.YtlnailpefdlnnaaRegLaw
namespace Go.Proofs.Ytlnailpefdlnnaa.Pl
theorem canon_eq {G H : Nat → Nat → Bool} (h : ∀ y, y < 16 → ∀ x, x < 16 → G y x = H y x) : canon G = canon H := canon_congr h
theorem form_split {a b : List R} (ha : regionOk a = true) (hb : regionOk b = true) : unionOf (withoutOf a b) (commonOf a b) = a := by
  have h1 : regionOk (withoutOf a b) = true := by rw [withoutOf_ok ha hb]; exact regionOk_canon _
  have h2 : regionOk (commonOf a b) = true := by rw [commonOf_ok ha hb]; exact regionOk_canon _
  rw [unionOf_ok h1 h2, ← regionOk_eq ha]
  refine canon_eq fun y hy x hx => ?_
  rw [regionOk_eq ha, withoutOf_ok ha hb, commonOf_ok ha hb, gridL_canon _ y hy x hx, gridL_canon _ y hy x hx]
  cases gridL a y x <;> cases gridL b y x <;> rfl
theorem form_append {a b : List R} (ha : regionOk a = true) (hb : regionOk b = true) : regionOf (b ++ a) = unionOf a b := by
  rw [unionOf_ok ha hb]
  refine canon_eq fun y _ x _ => ?_
  simp [gridL, Bool.or_comm]
theorem form_comm {a b : List R} (ha : regionOk a = true) (hb : regionOk b = true) : unionOf b a = unionOf a b := by
  rw [unionOf_ok ha hb, unionOf_ok hb ha]
  exact canon_eq fun y _ x _ => Bool.or_comm _ _
theorem unionOf_good {a b : List R} (ha : regionOk a = true) (hb : regionOk b = true) : regionOk (unionOf a b) = true := by rw [unionOf_ok ha hb]; exact regionOk_canon _
theorem rowRuns_none (x : Nat) : runs (fun _ => false) x = [] := by
  induction x using runs.induct (f := fun _ => false) with
  | case1 x hx ih =>
    have h0 : runLen (fun _ => false) x = 0 := by rw [runLen, if_neg (by simp)]
    rw [runs, if_pos hx, ih, if_pos h0]
    rfl
  | case2 x hx => rw [runs, if_neg hx]
theorem canonFrom_none (y : Nat) : canonFrom (fun _ _ => false) y = [] := by
  induction y using canonFrom.induct (G := fun _ _ => false) with
  | case1 y hy ih => rw [canonFrom, if_pos hy, ih, rowRuns_none]; rfl
  | case2 y hy => rw [canonFrom, if_neg hy]
theorem form_none {a : List R} (ha : regionOk a = true) : withoutOf a a = [] := by
  rw [withoutOf_ok ha ha, canon_eq (H := fun _ _ => false) fun y _ x _ => by cases gridL a y x <;> rfl]
  exact canonFrom_none 0
/-- A rectangle of a canonical form. -/
def Tight (r : R) : Prop := 0 ≤ r.x ∧ 0 ≤ r.y ∧ 1 ≤ r.w ∧ 1 ≤ r.h ∧ r.x + r.w ≤ 16 ∧ r.y + r.h ≤ 16
theorem Tight.ok {r : R} (h : Tight r) : r.ok = true := by
  obtain ⟨h1, h2, h3, h4, h5, h6⟩ := h
  simp [R.ok, rectOk, inB]
  omega
theorem Tight.full {r : R} (h : Tight r) : r.empty = false := by
  obtain ⟨h1, h2, h3, h4, h5, h6⟩ := h
  simp [R.empty]
  omega
theorem bounds_zero {r : R} (h : Tight r) : bounds R.zero r = r := by
  have hz : R.ok R.zero = true := by decide
  have he : R.empty R.zero = true := by decide
  simp [bounds, h.ok, h.full, hz, he]
theorem bounds_tight {q r : R} (hq : Tight q) (hr : Tight r) : Tight (bounds q r) ∧ (bounds q r).x ≤ q.x ∧ (bounds q r).y ≤ q.y ∧ q.x + q.w ≤ (bounds q r).x + (bounds q r).w ∧ q.y + q.h ≤ (bounds q r).y + (bounds q r).h ∧ (bounds q r).x ≤ r.x ∧ (bounds q r).y ≤ r.y ∧ r.x + r.w ≤ (bounds q r).x + (bounds q r).w ∧ r.y + r.h ≤ (bounds q r).y + (bounds q r).h := by
  have e : bounds q r = ⟨min q.x r.x, min q.y r.y, max (q.x + q.w) (r.x + r.w) - min q.x r.x, max (q.y + q.h) (r.y + r.h) - min q.y r.y⟩ := by
    have ht : Tight ⟨min q.x r.x, min q.y r.y, max (q.x + q.w) (r.x + r.w) - min q.x r.x, max (q.y + q.h) (r.y + r.h) - min q.y r.y⟩ := by
      obtain ⟨h1, h2, h3, h4, h5, h6⟩ := hq
      obtain ⟨k1, k2, k3, k4, k5, k6⟩ := hr
      unfold Tight
      simp only
      omega
    simp [bounds, hq.ok, hr.ok, hq.full, hr.full, ht.ok]
  rw [e]
  obtain ⟨h1, h2, h3, h4, h5, h6⟩ := hq
  obtain ⟨k1, k2, k3, k4, k5, k6⟩ := hr
  unfold Tight
  simp only
  omega
theorem covers_tight {q r : R} (hq : Tight q) (hr : Tight r) (h : q.x ≤ r.x ∧ q.y ≤ r.y ∧ r.x + r.w ≤ q.x + q.w ∧ r.y + r.h ≤ q.y + q.h) : covers q r = true := by
  simp [covers, hq.ok, hr.ok, hq.full, hr.full]
  omega
theorem boundsL_covers (l : List R) (hl : ∀ (k : Nat) (r : R), l[k]? = some r → Tight r) : ∀ n, n ≤ l.length → (n = 0 ∧ boundsL (l.take n) = R.zero) ∨ (Tight (boundsL (l.take n)) ∧ ∀ k r, k < n → l[k]? = some r → (boundsL (l.take n)).x ≤ r.x ∧ (boundsL (l.take n)).y ≤ r.y ∧ r.x + r.w ≤ (boundsL (l.take n)).x + (boundsL (l.take n)).w ∧ r.y + r.h ≤ (boundsL (l.take n)).y + (boundsL (l.take n)).h) := by
  intro n
  induction n with
  | zero => intro _; exact .inl ⟨rfl, rfl⟩
  | succ n ih =>
    intro hn
    have hr := List.getElem?_eq_getElem (show n < l.length by omega)
    have ht := hl n _ hr
    right
    rw [boundsL_take hr]
    rcases ih (by omega) with ⟨rfl, e⟩ | ⟨h1, h2⟩
    · rw [e, bounds_zero ht]
      refine ⟨ht, fun k r hk hkr => ?_⟩
      obtain rfl : k = 0 := by omega
      rw [hr] at hkr
      injection hkr with hkr
      subst hkr
      omega
    · obtain ⟨b1, b2⟩ := bounds_tight h1 ht
      refine ⟨b1, fun k r hk hkr => ?_⟩
      by_cases e : k = n
      · subst e
        rw [hr] at hkr
        injection hkr with hkr
        subst hkr
        omega
      · have := h2 k r (by omega) hkr
        omega
theorem bounds_cover {a : List R} (ha : regionOk a = true) {k : Nat} {r : R} (hr : a[k]? = some r) : covers (boundsOf a) r = true := by
  have hl : ∀ (k : Nat) (r : R), a[k]? = some r → Tight r := fun k r h => (ok_mem ha h).2
  have hk := (List.getElem?_eq_some_iff.1 hr).1
  have e : boundsOf a = boundsL (a.take a.length) := by rw [List.take_length]; simp [boundsOf, ha]
  rcases boundsL_covers a hl a.length (Nat.le_refl _) with ⟨h0, _⟩ | ⟨h1, h2⟩
  · omega
  · rw [e]
    exact covers_tight h1 (hl k r hr) (h2 k r hk hr)
end Go.Proofs.Ytlnailpefdlnnaa.Pl
