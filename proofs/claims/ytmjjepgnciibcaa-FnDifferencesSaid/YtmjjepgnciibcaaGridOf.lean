/- Contract: gridOf. -/
import Derived.Test.YtmjjepgnciibcaaGridW
namespace Go.Proofs.Ytmjjepgnciibcaa
open Go.RowKit
set_option linter.unusedVariables false
set_option linter.unusedSimpArgs false
/-- The numbers of a rectangle's rows. -/
def Pl.mrect (r : Pl.R) (y : Nat) : Nat := if r.y.toNat ≤ y ∧ y < r.y.toNat + r.h.toNat then (2 ^ r.w.toNat - 1) * 2 ^ r.x.toNat else 0
theorem Pl.mrect_lt {r : Pl.R} (h0 : 0 ≤ r.x) (h1 : r.x + r.w ≤ 16) (h2 : 0 ≤ r.w) (y : Nat) : Pl.mrect r y < 65536 := by
  unfold Pl.mrect
  split
  · exact Pl.mask_lt (by omega)
  · decide
theorem Pl.mrect_holds {a y n k : Nat} (h1 : a + n ≤ 16) (h2 : y + k ≤ 16) : Pl.Holds (Pl.mrect ⟨a, y, n, k⟩) (fun j i => Pl.R.has ⟨a, y, n, k⟩ i j) := by
  intro j hj
  refine ⟨Pl.mrect_lt (by simp) (by simp; omega) (by simp) j, fun i hi => ?_⟩
  rw [Bool.eq_iff_iff, Pl.has_nat h1 h2]
  unfold Pl.mrect
  simp only [Int.toNat_natCast]
  split
  · rename_i h; rw [Pl.mask_bit]; simp; omega
  · rename_i h; simp; omega
theorem shl_i64 {a n : Nat} (ha : a < 65536) (hn : n ≤ 16) : IntKind.i64.wrap ((a : Int) * 2 ^ n) = ((a * 2 ^ n : Nat) : Int) := by
  have h1 : 2 ^ n ≤ 2 ^ 16 := Nat.pow_le_pow_right (by decide) hn
  have h2 : a * 2 ^ n < 65536 * 65536 := by
    refine Nat.lt_of_le_of_lt (Nat.mul_le_mul_left a h1) ?_
    exact Nat.mul_lt_mul_of_pos_right ha (by decide)
  have e : ((a : Int) * 2 ^ n) = ((a * 2 ^ n : Nat) : Int) := by simp
  rw [e]
  exact IntWalk.i64_in _ ⟨by omega, by omega⟩
theorem mask_wrap {N A : Nat} (hN : N ≤ 16) (hA : A ≤ 16) : wrap64 (wrap64 (wrap64 ((2 : Int) ^ N) - 1) * 2 ^ A) = (((2 ^ N - 1) * 2 ^ A : Nat) : Int) := by
  have h1 : 2 ^ N ≤ 65536 := Nat.pow_le_pow_right (n := 2) (by decide) (by omega : N ≤ 16)
  have hp : 0 < 2 ^ N := Nat.two_pow_pos N
  have e0 : ((2 : Int) ^ N) = ((2 ^ N : Nat) : Int) := by simp
  have h0 : wrap64 ((2 : Int) ^ N) = ((2 ^ N : Nat) : Int) := by rw [e0]; unfold wrap64; omega
  have h2 : wrap64 (((2 ^ N : Nat) : Int) - 1) = ((2 ^ N - 1 : Nat) : Int) := by unfold wrap64; omega
  rw [h0, h2]
  have := shl_i64 (a := 2 ^ N - 1) (n := A) (by omega) hA
  unfold wrap64
  rw [← IntKind.wrap_i64]
  exact this
/-- The part of a rectangle that lies on the screen. -/
theorem Pl.inter_screen (r : Pl.R) : ∃ a y n k : Nat, Pl.inter r ⟨0, 0, 16, 16⟩ = ⟨a, y, n, k⟩ ∧ a + n ≤ 16 ∧ y + k ≤ 16 ∧ ∀ i j : Nat, i < 16 → j < 16 → Pl.R.has ⟨a, y, n, k⟩ i j = r.has i j := by
  obtain ⟨x, y, a, b⟩ := r
  have hs : Pl.R.ok ⟨0, 0, 16, 16⟩ = true := by decide
  unfold Pl.inter
  rw [hs]
  cases hr : Pl.R.ok ⟨x, y, a, b⟩
  · refine ⟨0, 0, 0, 0, rfl, by omega, by omega, fun i j hi hj => ?_⟩
    have e : Pl.rectOk x y a b = false := hr
    simp [Pl.R.has, Pl.hasPoint, e]
  · have e : Pl.rectOk x y a b = true := hr
    have := Pl.rectOk_t e
    simp only [Bool.not_true, Bool.or_self, Bool.false_eq_true, if_false]
    split
    · rename_i h
      refine ⟨0, 0, 0, 0, rfl, by omega, by omega, fun i j hi hj => ?_⟩
      rw [Bool.eq_iff_iff, Pl.has_nat (by omega) (by omega)]
      simp [Pl.R.has, Pl.hasPoint, e]
      omega
    · rename_i h
      refine ⟨(max x 0).toNat, (max y 0).toNat, (min (x + a) (0 + 16) - max x 0).toNat, (min (y + b) (0 + 16) - max y 0).toNat, ?_, by omega, by omega, fun i j hi hj => ?_⟩
      · refine Pl.R.ext' ?_ ?_ ?_ ?_ <;> simp only <;> omega
      · rw [Bool.eq_iff_iff, Pl.has_nat (by omega) (by omega)]
        simp [Pl.R.has, Pl.hasPoint, e]
        omega
/-- What gridOf makes of a rectangle. -/
def Pl.grow (r : Pl.R) : Nat → Nat := Pl.mrect (Pl.inter r ⟨0, 0, 16, 16⟩)
theorem Pl.grow_holds (r : Pl.R) : Pl.Holds (Pl.grow r) (fun j i => r.has i j) := by
  obtain ⟨a, y, n, k, e, h1, h2, h3⟩ := Pl.inter_screen r
  unfold Pl.grow
  rw [e]
  exact (Pl.mrect_holds h1 h2).congr fun j hj i hi => h3 i j hi hj
attribute [local irreducible] gcells
set_option maxRecDepth 100000 in
set_option maxHeartbeats 4000000 in
theorem gridOf_any (x y a b : Int) (w : World) : Calls Try.prog 72 #[.agg #[.int .i64 x, .int .i64 y, .int .i64 a, .int .i64 b]] w fun e w' => e = .returned (.agg (gcells (Pl.grow ⟨x, y, a, b⟩))) ∧ Below w.heap.size w w' := by
  obtain ⟨A, Y, N, K, hi, hA, hY, _⟩ := Pl.inter_screen ⟨x, y, a, b⟩
  unfold Pl.grow
  rw [hi]
  go_enter Try.func72, Try.ntmps72
  go_wp2_with (first
    | (go_at_call 78; ((with_reducible refine (implIntersect x y a b 0 0 16 16 _).mono ?_)); rw [hi]; rintro e w1 ⟨rfl, B1⟩; have V1 := Lib.hid (V2.out.step B1); have GR1 := Lib.hid (GR.out.below B1 GR.out.lt); have GG1 := Lib.hid (GG.out.below B1 GG.out.lt); have BB1 := Lib.hid (later BB.out B1); obtain ⟨l0, c0, c1, c2, c3, f0, f1, f2, f3⟩ := V1.out.open4; clear B1)
    | (refine wpList_gstore (fun _ => 0) _ _ rfl rfl rfl (by rw [gcells_zero]; rfl) (by rw [← gcells_zero]; exact GB.new (by simp)) ?_; intro w2 G2 O2 S2; have V2 := Lib.hid (VB.out (((VB.new (b := w.heap.size) (t := 50) (cs := [.int .i64 x, .int .i64 y, .int .i64 a, .int .i64 b]) rfl).alloc _).alloc _) O2 (by omega)); have GR := Lib.hid (GB.out (b := w.heap.size + 1) (m := fun _ => 0) (GB.alloc (by rw [← gcells_zero]; exact GB.new (by simp)) _) O2 (by omega)); have BB := Lib.hid (O2.below (B := w.heap.size) (by omega) (by simp; omega)); have BB := Lib.hid ((show Below w.heap.size w _ from by go_grown).trans BB.out); have GG := Lib.hid G2; obtain ⟨l0, c0, c1, c2, c3, f0, f1, f2, f3⟩ := V2.out.open4; clear O2 S2 G2))
  go_loopw [4] (fun i wr => ∃ k : Nat, Y ≤ k ∧ k ≤ Y + K ∧ i = .int .i64 k ∧ Hid (VB wr w.heap.size [.int .i64 A, .int .i64 Y, .int .i64 N, .int .i64 K]) ∧ Hid (GB wr (w.heap.size + 1) (fun _ => 0)) ∧ Hid (GB wr (w.heap.size + 1 + 1) (fun j => if Y ≤ j ∧ j < k then (2 ^ N - 1) * 2 ^ A else 0)) ∧ Hid (Below w.heap.size w wr)) (fun i _ => Y + K - (intOf i).toNat)
  case atStart =>
    refine ⟨Y, Nat.le_refl _, by omega, rfl, Lib.hid (V1.out.set4 _ _ _ _), Lib.hid ((((GR1.out.far _ _ (by simp)).far _ _ (by simp)).far _ _ (by simp)).far _ _ (by simp)), Lib.hid (((((GG1.out.far _ _ (by show w.heap.size + 1 + 1 ≠ w.heap.size; omega)).far _ _ (by show w.heap.size + 1 + 1 ≠ w.heap.size; omega)).far _ _ (by show w.heap.size + 1 + 1 ≠ w.heap.size; omega)).far _ _ (by show w.heap.size + 1 + 1 ≠ w.heap.size; omega)).congr fun y _ => ?_), Lib.hid ((((BB1.out.setCell (Nat.le_refl _) _).setCell (Nat.le_refl _) _).setCell (Nat.le_refl _) _).setCell (Nat.le_refl _) _)⟩
    rw [if_neg (by omega)]
  case round =>
    obtain ⟨k, hk0, hk, rfl, h1, h2, h3, hB⟩ := hrel
    clear l0 c0 c1 c2 c3 f0 f1 f2 f3
    obtain ⟨l0, c0, c1, c2, c3, f0, f1, f2, f3⟩ := h1.out.open4
    by_cases hlt : k < Y + K
    · have c5 := h3.out.cell (k := k) (by omega)
      have f5 := h3.out.frozen k
      go_wp2_with fail
      go_region
      go_wp2_with fail
      go_roundw
      case rel =>
        refine ⟨k + 1, by omega, by omega, by go_num, Lib.hid (VB.drew (h1.out.far _ _ (by show w.heap.size ≠ w.heap.size + 1 + 1; omega))), Lib.hid (GB.drew (h2.out.far _ _ (by simp))), Lib.hid (GB.drew ?_), Lib.hid (Below.drew (hB.out.setCell (by show w.heap.size ≤ w.heap.size + 1 + 1; omega) _))⟩
        rw [mask_wrap (by omega) (by omega)]
        refine GB.congr (h3.out.set (k := k) (by omega) ((2 ^ N - 1) * 2 ^ A)) fun j _ => ?_
        by_cases e : j = k
        · subst e; simp; omega
        · by_cases e2 : Y ≤ j ∧ j < k
          · rw [if_neg e, if_pos e2, if_pos ⟨e2.1, by omega⟩]
          · rw [if_neg e, if_neg e2, if_neg (by omega)]
      case measure => simp [intOf]; omega
    · obtain rfl : k = Y + K := by omega
      have hR : Pl.mrect ⟨A, Y, N, K⟩ = fun j => if Y ≤ j ∧ j < Y + K then (2 ^ N - 1) * 2 ^ A else 0 := by
        funext j; simp [Pl.mrect]
      go_wp2_with (first
        | (refine wpList_gload _ rfl rfl rfl h3.out ?_)
        | (refine wpList_gstore (fun j => if Y ≤ j ∧ j < Y + K then (2 ^ N - 1) * 2 ^ A else 0) _ _ rfl rfl rfl rfl h2.out ?_; intro w9 G9 O9 S9))
      refine bodyPost_ret (v := .agg (gcells (Pl.mrect ⟨A, Y, N, K⟩))) ?_ rfl ⟨rfl, hB.out.trans (O9.below (by omega) (by have := hB.out.size; omega))⟩
      rw [hR]
      exact gresult rfl rfl G9
end Go.Proofs.Ytmjjepgnciibcaa
