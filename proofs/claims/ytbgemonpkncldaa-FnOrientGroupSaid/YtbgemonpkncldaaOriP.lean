/- Contracts: OrientPoint. -/
import Derived.Test.YtbgemonpkncldaaOri
namespace Go.Proofs.Ytbgemonpkncldaa.Pl
def oriIn (w h o x y : Int) : Bool := inB w 1 16 && inB h 1 16 && inB o 0 7 && inB x 0 (w - 1) && inB y 0 (h - 1)
def flipX (w o x : Int) : Int := if 4 ≤ o then w - 1 - x else x
def oriX (w h o x y : Int) : Int := if oriIn w h o x y then (if o % 4 = 0 then flipX w o x else if o % 4 = 1 then h - 1 - y else if o % 4 = 2 then w - 1 - flipX w o x else y) else -1
def oriY (w h o x y : Int) : Int := if oriIn w h o x y then (if o % 4 = 0 then y else if o % 4 = 1 then flipX w o x else if o % 4 = 2 then h - 1 - y else w - 1 - flipX w o x) else -1
theorem oriX_no {w h o x y : Int} (hn : oriIn w h o x y = false) : -1 = oriX w h o x y ∧ -1 = oriY w h o x y := by simp [oriX, oriY, hn]
theorem oriIn_t {w h o x y : Int} (hi : oriIn w h o x y = true) : (1 ≤ w ∧ w ≤ 16) ∧ (1 ≤ h ∧ h ≤ 16) ∧ (0 ≤ o ∧ o ≤ 7) ∧ (0 ≤ x ∧ x ≤ w - 1) ∧ (0 ≤ y ∧ y ≤ h - 1) := by
  simp only [oriIn, Bool.and_eq_true] at hi
  obtain ⟨⟨⟨⟨h1, h2⟩, h3⟩, h4⟩, h5⟩ := hi
  exact ⟨inB_t h1, inB_t h2, inB_t h3, inB_t h4, inB_t h5⟩
end Go.Proofs.Ytbgemonpkncldaa.Pl
namespace Go.Proofs.Ytbgemonpkncldaa
open Go.RowKit
theorem implOrientPoint_no (p q o x y : Int) (w : World) (hn : Pl.oriIn p q o x y = false) : Calls Try.prog 46 #[.int .i64 p, .int .i64 q, .int .i64 o, .int .i64 x, .int .i64 y] w fun e w' => e = .returned (.tuple #[.int .i64 (Pl.oriX p q o x y), .int .i64 (Pl.oriY p q o x y)]) ∧ w = w' := by
  have H := Lib.hid (Pl.oriX_no hn)
  have hn' := hn
  simp only [Pl.oriIn] at hn'
  cases h1 : Pl.inB p 1 16
  case false =>
    clear hn hn'
    go_enter Try.func46, Try.ntmps46
    go_wp2_with (first | (go_at_call 51; ((with_reducible refine (isSide_any _ _).mono ?_)); rintro e w' ⟨rfl, rfl⟩) | (go_at_call 77; ((with_reducible refine (isOrient_any _ _).mono ?_)); rintro e w' ⟨rfl, rfl⟩) | (go_at_call 57; ((with_reducible refine (within_any _ _ _ _).mono ?_)); rintro e w' ⟨rfl, rfl⟩))
    go_ret2
    exact ⟨ret_ii H.out.1 H.out.2, rfl⟩
  cases h2 : Pl.inB q 1 16
  case false =>
    clear hn hn'
    go_enter Try.func46, Try.ntmps46
    go_wp2_with (first | (go_at_call 51; ((with_reducible refine (isSide_any _ _).mono ?_)); rintro e w' ⟨rfl, rfl⟩) | (go_at_call 77; ((with_reducible refine (isOrient_any _ _).mono ?_)); rintro e w' ⟨rfl, rfl⟩) | (go_at_call 57; ((with_reducible refine (within_any _ _ _ _).mono ?_)); rintro e w' ⟨rfl, rfl⟩))
    go_ret2
    exact ⟨ret_ii H.out.1 H.out.2, rfl⟩
  have ⟨_, _⟩ := Pl.inB_t h1
  have ⟨_, _⟩ := Pl.inB_t h2
  cases h3 : Pl.inB o 0 7
  case false =>
    clear hn hn'
    go_enter Try.func46, Try.ntmps46
    go_wp2_with (first | (go_at_call 51; ((with_reducible refine (isSide_any _ _).mono ?_)); rintro e w' ⟨rfl, rfl⟩) | (go_at_call 77; ((with_reducible refine (isOrient_any _ _).mono ?_)); rintro e w' ⟨rfl, rfl⟩) | (go_at_call 57; ((with_reducible refine (within_any _ _ _ _).mono ?_)); rintro e w' ⟨rfl, rfl⟩))
    go_ret2
    exact ⟨ret_ii H.out.1 H.out.2, rfl⟩
  cases h4 : Pl.inB x 0 (p - 1)
  case false =>
    clear hn hn'
    go_enter Try.func46, Try.ntmps46
    go_wp2_with (first | (go_at_call 51; ((with_reducible refine (isSide_any _ _).mono ?_)); rintro e w' ⟨rfl, rfl⟩) | (go_at_call 77; ((with_reducible refine (isOrient_any _ _).mono ?_)); rintro e w' ⟨rfl, rfl⟩) | (go_at_call 57; ((with_reducible refine (within_any _ _ _ _).mono ?_)); rintro e w' ⟨rfl, rfl⟩))
    go_ret2
    exact ⟨ret_ii H.out.1 H.out.2, rfl⟩
  have h5 : Pl.inB y 0 (q - 1) = false := by simpa [h1, h2, h3, h4] using hn'
  clear hn hn'
  go_enter Try.func46, Try.ntmps46
  go_wp2_with (first | (go_at_call 51; ((with_reducible refine (isSide_any _ _).mono ?_)); rintro e w' ⟨rfl, rfl⟩) | (go_at_call 77; ((with_reducible refine (isOrient_any _ _).mono ?_)); rintro e w' ⟨rfl, rfl⟩) | (go_at_call 57; ((with_reducible refine (within_any _ _ _ _).mono ?_)); rintro e w' ⟨rfl, rfl⟩))
  go_ret2
  exact ⟨ret_ii H.out.1 H.out.2, rfl⟩
theorem implOrientPoint_yes (p q o x y : Int) (w : World) (hn : Pl.oriIn p q o x y = true) : Calls Try.prog 46 #[.int .i64 p, .int .i64 q, .int .i64 o, .int .i64 x, .int .i64 y] w fun e w' => e = .returned (.tuple #[.int .i64 (Pl.oriX p q o x y), .int .i64 (Pl.oriY p q o x y)]) ∧ w = w' := by
  have ⟨⟨_, _⟩, ⟨_, _⟩, ⟨_, _⟩, ⟨_, _⟩, ⟨_, _⟩⟩ := Pl.oriIn_t hn
  have HN := Lib.hid hn
  have h1 : Pl.inB p 1 16 = true := Pl.inB_mk (by omega)
  have h2 : Pl.inB q 1 16 = true := Pl.inB_mk (by omega)
  have h4 : Pl.inB x 0 (p - 1) = true := Pl.inB_mk (by omega)
  have h5 : Pl.inB y 0 (q - 1) = true := Pl.inB_mk (by omega)
  clear hn
  obtain rfl | rfl | rfl | rfl | rfl | rfl | rfl | rfl : o = 0 ∨ o = 1 ∨ o = 2 ∨ o = 3 ∨ o = 4 ∨ o = 5 ∨ o = 6 ∨ o = 7 := by omega
  · have h3 : Pl.inB 0 0 7 = true := by decide
    go_enter Try.func46, Try.ntmps46
    go_wp2_with (first | (go_at_call 51; ((with_reducible refine (isSide_any _ _).mono ?_)); rintro e w' ⟨rfl, rfl⟩) | (go_at_call 77; ((with_reducible refine (isOrient_any _ _).mono ?_)); rintro e w' ⟨rfl, rfl⟩) | (go_at_call 57; ((with_reducible refine (within_any _ _ _ _).mono ?_)); rintro e w' ⟨rfl, rfl⟩))
    refine wp_loop_rounds 1 ?_
    rw [rounds_succ]; go_wp2
    go_ret2
    exact ⟨ret_ii (by unfold Pl.oriX Pl.flipX; simp [HN.out]; try omega) (by unfold Pl.oriY Pl.flipX; simp [HN.out]; try omega), rfl⟩
  · have h3 : Pl.inB 1 0 7 = true := by decide
    go_enter Try.func46, Try.ntmps46
    go_wp2_with (first | (go_at_call 51; ((with_reducible refine (isSide_any _ _).mono ?_)); rintro e w' ⟨rfl, rfl⟩) | (go_at_call 77; ((with_reducible refine (isOrient_any _ _).mono ?_)); rintro e w' ⟨rfl, rfl⟩) | (go_at_call 57; ((with_reducible refine (within_any _ _ _ _).mono ?_)); rintro e w' ⟨rfl, rfl⟩))
    refine wp_loop_rounds 2 ?_
    rw [rounds_succ]; go_wp2
    rw [rounds_succ]; go_wp2
    go_ret2
    exact ⟨ret_ii (by unfold Pl.oriX Pl.flipX; simp [HN.out]; try omega) (by unfold Pl.oriY Pl.flipX; simp [HN.out]; try omega), rfl⟩
  · have h3 : Pl.inB 2 0 7 = true := by decide
    go_enter Try.func46, Try.ntmps46
    go_wp2_with (first | (go_at_call 51; ((with_reducible refine (isSide_any _ _).mono ?_)); rintro e w' ⟨rfl, rfl⟩) | (go_at_call 77; ((with_reducible refine (isOrient_any _ _).mono ?_)); rintro e w' ⟨rfl, rfl⟩) | (go_at_call 57; ((with_reducible refine (within_any _ _ _ _).mono ?_)); rintro e w' ⟨rfl, rfl⟩))
    refine wp_loop_rounds 3 ?_
    rw [rounds_succ]; go_wp2
    rw [rounds_succ]; go_wp2
    rw [rounds_succ]; go_wp2
    go_ret2
    exact ⟨ret_ii (by unfold Pl.oriX Pl.flipX; simp [HN.out]; try omega) (by unfold Pl.oriY Pl.flipX; simp [HN.out]; try omega), rfl⟩
  · have h3 : Pl.inB 3 0 7 = true := by decide
    go_enter Try.func46, Try.ntmps46
    go_wp2_with (first | (go_at_call 51; ((with_reducible refine (isSide_any _ _).mono ?_)); rintro e w' ⟨rfl, rfl⟩) | (go_at_call 77; ((with_reducible refine (isOrient_any _ _).mono ?_)); rintro e w' ⟨rfl, rfl⟩) | (go_at_call 57; ((with_reducible refine (within_any _ _ _ _).mono ?_)); rintro e w' ⟨rfl, rfl⟩))
    refine wp_loop_rounds 4 ?_
    rw [rounds_succ]; go_wp2
    rw [rounds_succ]; go_wp2
    rw [rounds_succ]; go_wp2
    rw [rounds_succ]; go_wp2
    go_ret2
    exact ⟨ret_ii (by unfold Pl.oriX Pl.flipX; simp [HN.out]; try omega) (by unfold Pl.oriY Pl.flipX; simp [HN.out]; try omega), rfl⟩
  · have h3 : Pl.inB 4 0 7 = true := by decide
    go_enter Try.func46, Try.ntmps46
    go_wp2_with (first | (go_at_call 51; ((with_reducible refine (isSide_any _ _).mono ?_)); rintro e w' ⟨rfl, rfl⟩) | (go_at_call 77; ((with_reducible refine (isOrient_any _ _).mono ?_)); rintro e w' ⟨rfl, rfl⟩) | (go_at_call 57; ((with_reducible refine (within_any _ _ _ _).mono ?_)); rintro e w' ⟨rfl, rfl⟩))
    refine wp_loop_rounds 1 ?_
    rw [rounds_succ]; go_wp2
    go_ret2
    exact ⟨ret_ii (by unfold Pl.oriX Pl.flipX; simp [HN.out]; try omega) (by unfold Pl.oriY Pl.flipX; simp [HN.out]; try omega), rfl⟩
  · have h3 : Pl.inB 5 0 7 = true := by decide
    go_enter Try.func46, Try.ntmps46
    go_wp2_with (first | (go_at_call 51; ((with_reducible refine (isSide_any _ _).mono ?_)); rintro e w' ⟨rfl, rfl⟩) | (go_at_call 77; ((with_reducible refine (isOrient_any _ _).mono ?_)); rintro e w' ⟨rfl, rfl⟩) | (go_at_call 57; ((with_reducible refine (within_any _ _ _ _).mono ?_)); rintro e w' ⟨rfl, rfl⟩))
    refine wp_loop_rounds 2 ?_
    rw [rounds_succ]; go_wp2
    rw [rounds_succ]; go_wp2
    go_ret2
    exact ⟨ret_ii (by unfold Pl.oriX Pl.flipX; simp [HN.out]; try omega) (by unfold Pl.oriY Pl.flipX; simp [HN.out]; try omega), rfl⟩
  · have h3 : Pl.inB 6 0 7 = true := by decide
    go_enter Try.func46, Try.ntmps46
    go_wp2_with (first | (go_at_call 51; ((with_reducible refine (isSide_any _ _).mono ?_)); rintro e w' ⟨rfl, rfl⟩) | (go_at_call 77; ((with_reducible refine (isOrient_any _ _).mono ?_)); rintro e w' ⟨rfl, rfl⟩) | (go_at_call 57; ((with_reducible refine (within_any _ _ _ _).mono ?_)); rintro e w' ⟨rfl, rfl⟩))
    refine wp_loop_rounds 3 ?_
    rw [rounds_succ]; go_wp2
    rw [rounds_succ]; go_wp2
    rw [rounds_succ]; go_wp2
    go_ret2
    exact ⟨ret_ii (by unfold Pl.oriX Pl.flipX; simp [HN.out]; try omega) (by unfold Pl.oriY Pl.flipX; simp [HN.out]; try omega), rfl⟩
  · have h3 : Pl.inB 7 0 7 = true := by decide
    go_enter Try.func46, Try.ntmps46
    go_wp2_with (first | (go_at_call 51; ((with_reducible refine (isSide_any _ _).mono ?_)); rintro e w' ⟨rfl, rfl⟩) | (go_at_call 77; ((with_reducible refine (isOrient_any _ _).mono ?_)); rintro e w' ⟨rfl, rfl⟩) | (go_at_call 57; ((with_reducible refine (within_any _ _ _ _).mono ?_)); rintro e w' ⟨rfl, rfl⟩))
    refine wp_loop_rounds 4 ?_
    rw [rounds_succ]; go_wp2
    rw [rounds_succ]; go_wp2
    rw [rounds_succ]; go_wp2
    rw [rounds_succ]; go_wp2
    go_ret2
    exact ⟨ret_ii (by unfold Pl.oriX Pl.flipX; simp [HN.out]; try omega) (by unfold Pl.oriY Pl.flipX; simp [HN.out]; try omega), rfl⟩
theorem implOrientPoint (p q o x y : Int) (w : World) : Calls Try.prog 46 #[.int .i64 p, .int .i64 q, .int .i64 o, .int .i64 x, .int .i64 y] w fun e w' => e = .returned (.tuple #[.int .i64 (Pl.oriX p q o x y), .int .i64 (Pl.oriY p q o x y)]) ∧ w = w' := by
  cases h : Pl.oriIn p q o x y
  · exact implOrientPoint_no p q o x y w h
  · exact implOrientPoint_yes p q o x y w h
theorem specOrientPoint_no (p q o x y : Int) (w : World) (hn : Pl.oriIn p q o x y = false) : Calls Try.prog 76 #[.int .i64 p, .int .i64 q, .int .i64 o, .int .i64 x, .int .i64 y] w fun e w' => e = .returned (.tuple #[.int .i64 (Pl.oriX p q o x y), .int .i64 (Pl.oriY p q o x y)]) ∧ w = w' := by
  have H := Lib.hid (Pl.oriX_no hn)
  have hn' := hn
  simp only [Pl.oriIn] at hn'
  cases h1 : Pl.inB p 1 16
  case false =>
    clear hn hn'
    go_enter Try.func76, Try.ntmps76
    go_wp2_with (go_at_call 48; ((with_reducible refine (l01In_any _ _ _ _).mono ?_)); rintro e w' ⟨rfl, rfl⟩)
    go_ret2
    exact ⟨ret_ii H.out.1 H.out.2, rfl⟩
  cases h2 : Pl.inB q 1 16
  case false =>
    clear hn hn'
    go_enter Try.func76, Try.ntmps76
    go_wp2_with (go_at_call 48; ((with_reducible refine (l01In_any _ _ _ _).mono ?_)); rintro e w' ⟨rfl, rfl⟩)
    go_ret2
    exact ⟨ret_ii H.out.1 H.out.2, rfl⟩
  have ⟨_, _⟩ := Pl.inB_t h1
  have ⟨_, _⟩ := Pl.inB_t h2
  cases h3 : Pl.inB o 0 7
  case false =>
    clear hn hn'
    go_enter Try.func76, Try.ntmps76
    go_wp2_with (go_at_call 48; ((with_reducible refine (l01In_any _ _ _ _).mono ?_)); rintro e w' ⟨rfl, rfl⟩)
    go_ret2
    exact ⟨ret_ii H.out.1 H.out.2, rfl⟩
  cases h4 : Pl.inB x 0 (p - 1)
  case false =>
    clear hn hn'
    go_enter Try.func76, Try.ntmps76
    go_wp2_with (go_at_call 48; ((with_reducible refine (l01In_any _ _ _ _).mono ?_)); rintro e w' ⟨rfl, rfl⟩)
    go_ret2
    exact ⟨ret_ii H.out.1 H.out.2, rfl⟩
  have h5 : Pl.inB y 0 (q - 1) = false := by simpa [h1, h2, h3, h4] using hn'
  clear hn hn'
  go_enter Try.func76, Try.ntmps76
  go_wp2_with (go_at_call 48; ((with_reducible refine (l01In_any _ _ _ _).mono ?_)); rintro e w' ⟨rfl, rfl⟩)
  go_ret2
  exact ⟨ret_ii H.out.1 H.out.2, rfl⟩
theorem specOrientPoint_yes (p q o x y : Int) (w : World) (hn : Pl.oriIn p q o x y = true) : Calls Try.prog 76 #[.int .i64 p, .int .i64 q, .int .i64 o, .int .i64 x, .int .i64 y] w fun e w' => e = .returned (.tuple #[.int .i64 (Pl.oriX p q o x y), .int .i64 (Pl.oriY p q o x y)]) ∧ w = w' := by
  have ⟨⟨_, _⟩, ⟨_, _⟩, ⟨_, _⟩, ⟨_, _⟩, ⟨_, _⟩⟩ := Pl.oriIn_t hn
  have HN := Lib.hid hn
  have h1 : Pl.inB p 1 16 = true := Pl.inB_mk (by omega)
  have h2 : Pl.inB q 1 16 = true := Pl.inB_mk (by omega)
  have h4 : Pl.inB x 0 (p - 1) = true := Pl.inB_mk (by omega)
  have h5 : Pl.inB y 0 (q - 1) = true := Pl.inB_mk (by omega)
  clear hn
  obtain rfl | rfl | rfl | rfl | rfl | rfl | rfl | rfl : o = 0 ∨ o = 1 ∨ o = 2 ∨ o = 3 ∨ o = 4 ∨ o = 5 ∨ o = 6 ∨ o = 7 := by omega
  · have h3 : Pl.inB 0 0 7 = true := by decide
    go_enter Try.func76, Try.ntmps76
    go_wp2_with (go_at_call 48; ((with_reducible refine (l01In_any _ _ _ _).mono ?_)); rintro e w' ⟨rfl, rfl⟩)
    refine wp_loop_rounds 1 ?_
    rw [rounds_succ]; go_wp2
    go_ret2
    exact ⟨ret_ii (by unfold Pl.oriX Pl.flipX; simp [HN.out]; try omega) (by unfold Pl.oriY Pl.flipX; simp [HN.out]; try omega), rfl⟩
  · have h3 : Pl.inB 1 0 7 = true := by decide
    go_enter Try.func76, Try.ntmps76
    go_wp2_with (go_at_call 48; ((with_reducible refine (l01In_any _ _ _ _).mono ?_)); rintro e w' ⟨rfl, rfl⟩)
    refine wp_loop_rounds 2 ?_
    rw [rounds_succ]; go_wp2
    rw [rounds_succ]; go_wp2
    go_ret2
    exact ⟨ret_ii (by unfold Pl.oriX Pl.flipX; simp [HN.out]; try omega) (by unfold Pl.oriY Pl.flipX; simp [HN.out]; try omega), rfl⟩
  · have h3 : Pl.inB 2 0 7 = true := by decide
    go_enter Try.func76, Try.ntmps76
    go_wp2_with (go_at_call 48; ((with_reducible refine (l01In_any _ _ _ _).mono ?_)); rintro e w' ⟨rfl, rfl⟩)
    refine wp_loop_rounds 3 ?_
    rw [rounds_succ]; go_wp2
    rw [rounds_succ]; go_wp2
    rw [rounds_succ]; go_wp2
    go_ret2
    exact ⟨ret_ii (by unfold Pl.oriX Pl.flipX; simp [HN.out]; try omega) (by unfold Pl.oriY Pl.flipX; simp [HN.out]; try omega), rfl⟩
  · have h3 : Pl.inB 3 0 7 = true := by decide
    go_enter Try.func76, Try.ntmps76
    go_wp2_with (go_at_call 48; ((with_reducible refine (l01In_any _ _ _ _).mono ?_)); rintro e w' ⟨rfl, rfl⟩)
    refine wp_loop_rounds 4 ?_
    rw [rounds_succ]; go_wp2
    rw [rounds_succ]; go_wp2
    rw [rounds_succ]; go_wp2
    rw [rounds_succ]; go_wp2
    go_ret2
    exact ⟨ret_ii (by unfold Pl.oriX Pl.flipX; simp [HN.out]; try omega) (by unfold Pl.oriY Pl.flipX; simp [HN.out]; try omega), rfl⟩
  · have h3 : Pl.inB 4 0 7 = true := by decide
    go_enter Try.func76, Try.ntmps76
    go_wp2_with (go_at_call 48; ((with_reducible refine (l01In_any _ _ _ _).mono ?_)); rintro e w' ⟨rfl, rfl⟩)
    refine wp_loop_rounds 1 ?_
    rw [rounds_succ]; go_wp2
    go_ret2
    exact ⟨ret_ii (by unfold Pl.oriX Pl.flipX; simp [HN.out]; try omega) (by unfold Pl.oriY Pl.flipX; simp [HN.out]; try omega), rfl⟩
  · have h3 : Pl.inB 5 0 7 = true := by decide
    go_enter Try.func76, Try.ntmps76
    go_wp2_with (go_at_call 48; ((with_reducible refine (l01In_any _ _ _ _).mono ?_)); rintro e w' ⟨rfl, rfl⟩)
    refine wp_loop_rounds 2 ?_
    rw [rounds_succ]; go_wp2
    rw [rounds_succ]; go_wp2
    go_ret2
    exact ⟨ret_ii (by unfold Pl.oriX Pl.flipX; simp [HN.out]; try omega) (by unfold Pl.oriY Pl.flipX; simp [HN.out]; try omega), rfl⟩
  · have h3 : Pl.inB 6 0 7 = true := by decide
    go_enter Try.func76, Try.ntmps76
    go_wp2_with (go_at_call 48; ((with_reducible refine (l01In_any _ _ _ _).mono ?_)); rintro e w' ⟨rfl, rfl⟩)
    refine wp_loop_rounds 3 ?_
    rw [rounds_succ]; go_wp2
    rw [rounds_succ]; go_wp2
    rw [rounds_succ]; go_wp2
    go_ret2
    exact ⟨ret_ii (by unfold Pl.oriX Pl.flipX; simp [HN.out]; try omega) (by unfold Pl.oriY Pl.flipX; simp [HN.out]; try omega), rfl⟩
  · have h3 : Pl.inB 7 0 7 = true := by decide
    go_enter Try.func76, Try.ntmps76
    go_wp2_with (go_at_call 48; ((with_reducible refine (l01In_any _ _ _ _).mono ?_)); rintro e w' ⟨rfl, rfl⟩)
    refine wp_loop_rounds 4 ?_
    rw [rounds_succ]; go_wp2
    rw [rounds_succ]; go_wp2
    rw [rounds_succ]; go_wp2
    rw [rounds_succ]; go_wp2
    go_ret2
    exact ⟨ret_ii (by unfold Pl.oriX Pl.flipX; simp [HN.out]; try omega) (by unfold Pl.oriY Pl.flipX; simp [HN.out]; try omega), rfl⟩
theorem specOrientPoint (p q o x y : Int) (w : World) : Calls Try.prog 76 #[.int .i64 p, .int .i64 q, .int .i64 o, .int .i64 x, .int .i64 y] w fun e w' => e = .returned (.tuple #[.int .i64 (Pl.oriX p q o x y), .int .i64 (Pl.oriY p q o x y)]) ∧ w = w' := by
  cases h : Pl.oriIn p q o x y
  · exact specOrientPoint_no p q o x y w h
  · exact specOrientPoint_yes p q o x y w h
end Go.Proofs.Ytbgemonpkncldaa
