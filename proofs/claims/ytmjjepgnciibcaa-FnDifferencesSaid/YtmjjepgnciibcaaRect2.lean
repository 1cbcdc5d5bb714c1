/- Contracts: isEmpty, Intersect. -/
import Derived.Test.YtmjjepgnciibcaaRect
import Derived.Test.YtmjjepgnciibcaaPlain2
import Derived.Deep.QuietTactic
import Derived.BigQuiet
import Derived.Lib.MinMax
namespace Go.Proofs.Ytmjjepgnciibcaa
open Go.RowKit

theorem ret_rect {x y a b x' y' a' b' : Int} (h1 : x = x') (h2 : y = y') (h3 : a = a') (h4 : b = b') : Ending.returned (.agg #[.int .i64 x, .int .i64 y, .int .i64 a, .int .i64 b]) = .returned (.agg #[.int .i64 x', .int .i64 y', .int .i64 a', .int .i64 b']) := by rw [h1, h2, h3, h4]
theorem ret_R {x y a b : Int} {r : Pl.R} (h : Pl.R.mk x y a b = r) : Ending.returned (.agg #[.int .i64 x, .int .i64 y, .int .i64 a, .int .i64 b]) = .returned (.agg #[.int .i64 r.x, .int .i64 r.y, .int .i64 r.w, .int .i64 r.h]) := by subst h; rfl

theorem isEmpty_any (x y a b : Int) (w : World) : Calls Try.prog 53 #[.agg #[.int .i64 x, .int .i64 y, .int .i64 a, .int .i64 b]] w fun e w' => e = .returned (.bool (Pl.R.empty ⟨x, y, a, b⟩)) ∧ Below w.heap.size w w' := by
  go_enter Try.func53, Try.ntmps53
  go_wp2
  all_goals
    go_ret
    exact ⟨ret_bool (by simp [Pl.R.empty, *]), by go_grown⟩
set_option maxHeartbeats 1000000 in
theorem implIntersect (x y a b x2 y2 a2 b2 : Int) (w : World) : Calls Try.prog 78 #[.agg #[.int .i64 x, .int .i64 y, .int .i64 a, .int .i64 b], .agg #[.int .i64 x2, .int .i64 y2, .int .i64 a2, .int .i64 b2]] w fun e w' => e = .returned (.agg #[.int .i64 (Pl.inter ⟨x, y, a, b⟩ ⟨x2, y2, a2, b2⟩).x, .int .i64 (Pl.inter ⟨x, y, a, b⟩ ⟨x2, y2, a2, b2⟩).y, .int .i64 (Pl.inter ⟨x, y, a, b⟩ ⟨x2, y2, a2, b2⟩).w, .int .i64 (Pl.inter ⟨x, y, a, b⟩ ⟨x2, y2, a2, b2⟩).h]) ∧ Below w.heap.size w w' := by
  cases hr : Pl.rectOk x y a b
  case false =>
    have H := Lib.hid (show Pl.R.zero = Pl.inter ⟨x, y, a, b⟩ ⟨x2, y2, a2, b2⟩ by simp [Pl.inter, Pl.R.ok, hr])
    go_enter Try.func78, Try.ntmps78
    go_wp2_with fail
    refine (implRectOk _ _ _ _ _).mono ?_
    rintro e w1 ⟨rfl, hb1⟩
    obtain ⟨hc1, hf1⟩ := bcell hb1
    have hz : w.heap.size + 3 ≤ w1.heap.size := by have := hb1.size; simp at this; omega
    have B1 : Below w.heap.size w w1 := ((((Below.refl w.heap.size w).alloc (Nat.le_refl _) _).alloc (by simp) _).alloc (by simp; omega) _).trans (hb1.mono (by simp; omega))
    go_wp2_with fail
    exact bodyPost_ret (v := .agg #[.int .i64 0, .int .i64 0, .int .i64 0, .int .i64 0]) (by simp [results, Try.results78, go_sem, hc1]) rfl ⟨ret_R H.out, by go_grown⟩
  cases hr2 : Pl.rectOk x2 y2 a2 b2
  case false =>
    have H := Lib.hid (show Pl.R.zero = Pl.inter ⟨x, y, a, b⟩ ⟨x2, y2, a2, b2⟩ by simp [Pl.inter, Pl.R.ok, hr2])
    go_enter Try.func78, Try.ntmps78
    go_wp2_with fail
    refine (implRectOk _ _ _ _ _).mono ?_
    rintro e w1 ⟨rfl, hb1⟩
    obtain ⟨hc1, hf1⟩ := bcell hb1
    have hz : w.heap.size + 3 ≤ w1.heap.size := by have := hb1.size; simp at this; omega
    have B1 : Below w.heap.size w w1 := ((((Below.refl w.heap.size w).alloc (Nat.le_refl _) _).alloc (by simp) _).alloc (by simp; omega) _).trans (hb1.mono (by simp; omega))
    go_wp2_with fail
    refine (implRectOk _ _ _ _ _).mono ?_
    rintro e w2 ⟨rfl, hb2⟩
    have B2 : Below w.heap.size w w2 := B1.trans (hb2.mono B1.size)
    have ⟨k2, f2⟩ := keepc hb2 (w.heap.size + 1 + 1) (by omega)
    go_wp2_with fail
    exact bodyPost_ret (v := .agg #[.int .i64 0, .int .i64 0, .int .i64 0, .int .i64 0]) (by simp [results, Try.results78, go_sem, k2, hc1]) rfl ⟨ret_R H.out, by go_grown⟩
  have ⟨_, _, _, _, _, _, _, _⟩ := Pl.rectOk_t hr
  have ⟨_, _, _, _, _, _, _, _⟩ := Pl.rectOk_t hr2
  by_cases hp : min (x + a) (x2 + a2) - max x x2 ≤ 0 ∨ min (y + b) (y2 + b2) - max y y2 ≤ 0
  · have H := Lib.hid (show Pl.R.zero = Pl.inter ⟨x, y, a, b⟩ ⟨x2, y2, a2, b2⟩ by simp only [Pl.inter, Pl.R.ok, hr, hr2]; rw [if_neg (by simp), if_pos hp])
    have HP := Lib.hid hp
    clear hp
    go_enter Try.func78, Try.ntmps78
    go_wp2_with fail
    refine (implRectOk _ _ _ _ _).mono ?_
    rintro e w1 ⟨rfl, hb1⟩
    obtain ⟨hc1, hf1⟩ := bcell hb1
    have hz : w.heap.size + 3 ≤ w1.heap.size := by have := hb1.size; simp at this; omega
    have B1 : Below w.heap.size w w1 := ((((Below.refl w.heap.size w).alloc (Nat.le_refl _) _).alloc (by simp) _).alloc (by simp; omega) _).trans (hb1.mono (by simp; omega))
    go_wp2_with fail
    refine (implRectOk _ _ _ _ _).mono ?_
    rintro e w2 ⟨rfl, hb2⟩
    have B2 : Below w.heap.size w w2 := B1.trans (hb2.mono B1.size)
    have ⟨_, _⟩ := keepc hb2 w.heap.size (by omega)
    have ⟨_, _⟩ := keepc hb2 (w.heap.size + 1) (by omega)
    have ⟨k2, f2⟩ := keepc hb2 (w.heap.size + 1 + 1) (by omega)
    go_wp2_with fail
    go_quiet (fail)
    go_wp2_with fail
    go_quiet (fail)
    go_wp2_with fail
    all_goals
      first
      | (exfalso; have := HP.out; omega)
      | exact bodyPost_ret (v := .agg #[.int .i64 0, .int .i64 0, .int .i64 0, .int .i64 0]) (by simp [results, Try.results78, go_sem, k2, hc1]) rfl ⟨ret_R H.out, by go_grown; all_goals exact below_drewN B2 _⟩
  · have H := Lib.hid (show Pl.R.mk (max x x2) (max y y2) (min (x + a) (x2 + a2) - max x x2) (min (y + b) (y2 + b2) - max y y2) = Pl.inter ⟨x, y, a, b⟩ ⟨x2, y2, a2, b2⟩ by simp only [Pl.inter, Pl.R.ok, hr, hr2]; rw [if_neg (by simp), if_neg hp])
    have ⟨_, _⟩ : 0 < min (x + a) (x2 + a2) - max x x2 ∧ 0 < min (y + b) (y2 + b2) - max y y2 := by omega
    clear hp
    go_enter Try.func78, Try.ntmps78
    go_wp2_with fail
    refine (implRectOk _ _ _ _ _).mono ?_
    rintro e w1 ⟨rfl, hb1⟩
    obtain ⟨hc1, hf1⟩ := bcell hb1
    have hz : w.heap.size + 3 ≤ w1.heap.size := by have := hb1.size; simp at this; omega
    have B1 : Below w.heap.size w w1 := ((((Below.refl w.heap.size w).alloc (Nat.le_refl _) _).alloc (by simp) _).alloc (by simp; omega) _).trans (hb1.mono (by simp; omega))
    go_wp2_with fail
    refine (implRectOk _ _ _ _ _).mono ?_
    rintro e w2 ⟨rfl, hb2⟩
    have B2 : Below w.heap.size w w2 := B1.trans (hb2.mono B1.size)
    have ⟨_, _⟩ := keepc hb2 w.heap.size (by omega)
    have ⟨_, _⟩ := keepc hb2 (w.heap.size + 1) (by omega)
    have ⟨k2, f2⟩ := keepc hb2 (w.heap.size + 1 + 1) (by omega)
    go_wp2_with fail
    go_quiet (fail)
    go_wp2_with fail
    go_quiet (fail)
    go_wp2_with fail
    exact bodyPost_ret (v := .agg #[.int .i64 (max x x2), .int .i64 (max y y2), .int .i64 (min (x + a) (x2 + a2) - max x x2), .int .i64 (min (y + b) (y2 + b2) - max y y2)]) (by simp [results, Try.results78, go_sem, k2, hc1]) rfl ⟨ret_R H.out, by go_grown; all_goals exact below_drewN B2 _⟩
set_option maxHeartbeats 1000000 in
theorem specIntersect (x y a b x2 y2 a2 b2 : Int) (w : World) : Calls Try.prog 52 #[.agg #[.int .i64 x, .int .i64 y, .int .i64 a, .int .i64 b], .agg #[.int .i64 x2, .int .i64 y2, .int .i64 a2, .int .i64 b2]] w fun e w' => e = .returned (.agg #[.int .i64 (Pl.inter ⟨x, y, a, b⟩ ⟨x2, y2, a2, b2⟩).x, .int .i64 (Pl.inter ⟨x, y, a, b⟩ ⟨x2, y2, a2, b2⟩).y, .int .i64 (Pl.inter ⟨x, y, a, b⟩ ⟨x2, y2, a2, b2⟩).w, .int .i64 (Pl.inter ⟨x, y, a, b⟩ ⟨x2, y2, a2, b2⟩).h]) ∧ Below w.heap.size w w' := by
  cases hr : Pl.rectOk x y a b
  case false =>
    have H := Lib.hid (show Pl.R.zero = Pl.inter ⟨x, y, a, b⟩ ⟨x2, y2, a2, b2⟩ by simp [Pl.inter, Pl.R.ok, hr])
    go_enter Try.func52, Try.ntmps52
    go_wp2_with fail
    refine (specRectOk _ _ _ _ _).mono ?_
    rintro e w1 ⟨rfl, hb1⟩
    obtain ⟨hc1, hf1⟩ := bcell hb1
    have hz : w.heap.size + 3 ≤ w1.heap.size := by have := hb1.size; simp at this; omega
    have B1 : Below w.heap.size w w1 := ((((Below.refl w.heap.size w).alloc (Nat.le_refl _) _).alloc (by simp) _).alloc (by simp; omega) _).trans (hb1.mono (by simp; omega))
    go_wp2_with fail
    exact bodyPost_ret (v := .agg #[.int .i64 0, .int .i64 0, .int .i64 0, .int .i64 0]) (by simp [results, Try.results52, go_sem, hc1]) rfl ⟨ret_R H.out, by go_grown⟩
  cases hr2 : Pl.rectOk x2 y2 a2 b2
  case false =>
    have H := Lib.hid (show Pl.R.zero = Pl.inter ⟨x, y, a, b⟩ ⟨x2, y2, a2, b2⟩ by simp [Pl.inter, Pl.R.ok, hr2])
    go_enter Try.func52, Try.ntmps52
    go_wp2_with fail
    refine (specRectOk _ _ _ _ _).mono ?_
    rintro e w1 ⟨rfl, hb1⟩
    obtain ⟨hc1, hf1⟩ := bcell hb1
    have hz : w.heap.size + 3 ≤ w1.heap.size := by have := hb1.size; simp at this; omega
    have B1 : Below w.heap.size w w1 := ((((Below.refl w.heap.size w).alloc (Nat.le_refl _) _).alloc (by simp) _).alloc (by simp; omega) _).trans (hb1.mono (by simp; omega))
    go_wp2_with fail
    refine (specRectOk _ _ _ _ _).mono ?_
    rintro e w2 ⟨rfl, hb2⟩
    have B2 : Below w.heap.size w w2 := B1.trans (hb2.mono B1.size)
    have ⟨k2, f2⟩ := keepc hb2 (w.heap.size + 1 + 1) (by omega)
    go_wp2_with fail
    exact bodyPost_ret (v := .agg #[.int .i64 0, .int .i64 0, .int .i64 0, .int .i64 0]) (by simp [results, Try.results52, go_sem, k2, hc1]) rfl ⟨ret_R H.out, by go_grown⟩
  have ⟨_, _, _, _, _, _, _, _⟩ := Pl.rectOk_t hr
  have ⟨_, _, _, _, _, _, _, _⟩ := Pl.rectOk_t hr2
  by_cases hp : min (x + a) (x2 + a2) - max x x2 ≤ 0 ∨ min (y + b) (y2 + b2) - max y y2 ≤ 0
  · have H := Lib.hid (show Pl.R.zero = Pl.inter ⟨x, y, a, b⟩ ⟨x2, y2, a2, b2⟩ by simp only [Pl.inter, Pl.R.ok, hr, hr2]; rw [if_neg (by simp), if_pos hp])
    have HP := Lib.hid hp
    clear hp
    go_enter Try.func52, Try.ntmps52
    go_wp2_with fail
    refine (specRectOk _ _ _ _ _).mono ?_
    rintro e w1 ⟨rfl, hb1⟩
    obtain ⟨hc1, hf1⟩ := bcell hb1
    have hz : w.heap.size + 3 ≤ w1.heap.size := by have := hb1.size; simp at this; omega
    have B1 : Below w.heap.size w w1 := ((((Below.refl w.heap.size w).alloc (Nat.le_refl _) _).alloc (by simp) _).alloc (by simp; omega) _).trans (hb1.mono (by simp; omega))
    go_wp2_with fail
    refine (specRectOk _ _ _ _ _).mono ?_
    rintro e w2 ⟨rfl, hb2⟩
    have B2 : Below w.heap.size w w2 := B1.trans (hb2.mono B1.size)
    have ⟨_, _⟩ := keepc hb2 w.heap.size (by omega)
    have ⟨_, _⟩ := keepc hb2 (w.heap.size + 1) (by omega)
    have ⟨k2, f2⟩ := keepc hb2 (w.heap.size + 1 + 1) (by omega)
    go_wp2_with fail
    all_goals
      first
      | (exfalso; have := HP.out; omega)
      | exact bodyPost_ret (v := .agg #[.int .i64 0, .int .i64 0, .int .i64 0, .int .i64 0]) (by simp [results, Try.results52, go_sem, k2, hc1]) rfl ⟨ret_R H.out, by go_grown; all_goals exact below_drewN B2 _⟩
  · have H := Lib.hid (show Pl.R.mk (max x x2) (max y y2) (min (x + a) (x2 + a2) - max x x2) (min (y + b) (y2 + b2) - max y y2) = Pl.inter ⟨x, y, a, b⟩ ⟨x2, y2, a2, b2⟩ by simp only [Pl.inter, Pl.R.ok, hr, hr2]; rw [if_neg (by simp), if_neg hp])
    have ⟨_, _⟩ : 0 < min (x + a) (x2 + a2) - max x x2 ∧ 0 < min (y + b) (y2 + b2) - max y y2 := by omega
    clear hp
    go_enter Try.func52, Try.ntmps52
    go_wp2_with fail
    refine (specRectOk _ _ _ _ _).mono ?_
    rintro e w1 ⟨rfl, hb1⟩
    obtain ⟨hc1, hf1⟩ := bcell hb1
    have hz : w.heap.size + 3 ≤ w1.heap.size := by have := hb1.size; simp at this; omega
    have B1 : Below w.heap.size w w1 := ((((Below.refl w.heap.size w).alloc (Nat.le_refl _) _).alloc (by simp) _).alloc (by simp; omega) _).trans (hb1.mono (by simp; omega))
    go_wp2_with fail
    refine (specRectOk _ _ _ _ _).mono ?_
    rintro e w2 ⟨rfl, hb2⟩
    have B2 : Below w.heap.size w w2 := B1.trans (hb2.mono B1.size)
    have ⟨_, _⟩ := keepc hb2 w.heap.size (by omega)
    have ⟨_, _⟩ := keepc hb2 (w.heap.size + 1) (by omega)
    have ⟨k2, f2⟩ := keepc hb2 (w.heap.size + 1 + 1) (by omega)
    go_wp2_with fail
    exact bodyPost_ret (v := .agg #[.int .i64 (max x x2), .int .i64 (max y y2), .int .i64 (min (x + a) (x2 + a2) - max x x2), .int .i64 (min (y + b) (y2 + b2) - max y y2)]) (by simp [results, Try.results52, go_sem, k2, hc1]) rfl ⟨ret_R H.out, by go_grown; all_goals exact below_drewN B2 _⟩
end Go.Proofs.Ytmjjepgnciibcaa
