/- Contracts: Covers. -/
import Derived.Test.YtbgemonpkncldaaRect3
import Derived.Deep.RegionWith
import Derived.Deep.RegionHeld3
import Derived.Test.YtbgemonpkncldaaBox
import Derived.Test.YtbgemonpkncldaaEq
import Derived.Test.YtbgemonpkncldaaOrd
namespace Go.Proofs.Ytbgemonpkncldaa
open Go.RowKit

theorem coversSpec {x y a b x2 y2 a2 b2 : Int} (hr : Pl.rectOk x y a b = true) (hr2 : Pl.rectOk x2 y2 a2 b2 = true) (eb : Pl.R.empty ⟨x2, y2, a2, b2⟩ = false) :
    (Pl.inter ⟨x, y, a, b⟩ ⟨x2, y2, a2, b2⟩ = ⟨x2, y2, a2, b2⟩) ↔ Pl.covers ⟨x, y, a, b⟩ ⟨x2, y2, a2, b2⟩ = true := by
  have ⟨_, _, _, _, _, _, _, _⟩ := Pl.rectOk_t hr
  have ⟨_, _, _, _, _, _, _, _⟩ := Pl.rectOk_t hr2
  simp [Pl.R.empty] at eb
  obtain ⟨e1, e2⟩ := eb
  have e3 : ¬ (a2 = 0 ∨ b2 = 0) := by omega
  simp only [Pl.inter, Pl.covers, Pl.R.ok, hr, hr2, Pl.R.empty]
  rw [if_neg (by simp)]
  simp only [Bool.true_and, Bool.or_eq_true, Bool.and_eq_true, decide_eq_true_eq, beq_iff_eq, Bool.not_eq_true', Bool.or_eq_false_iff, beq_eq_false_iff_ne]
  split
  · constructor
    · intro h; simp [Pl.R.zero] at h; omega
    · intro h; omega
  · constructor
    · intro h; simp at h; omega
    · intro h; simp; omega
set_option maxHeartbeats 4000000 in
theorem implCovers (x y a b x2 y2 a2 b2 : Int) (w : World) : Calls Try.prog 69 #[.agg #[.int .i64 x, .int .i64 y, .int .i64 a, .int .i64 b], .agg #[.int .i64 x2, .int .i64 y2, .int .i64 a2, .int .i64 b2]] w fun e w' => e = .returned (.bool (Pl.covers ⟨x, y, a, b⟩ ⟨x2, y2, a2, b2⟩)) ∧ Below w.heap.size w w' := by
  cases hr : Pl.rectOk x y a b
  case false =>
    go_enter Try.func69, Try.ntmps69
    go_wp2_with (first | (go_at_call 81; ((with_reducible refine (implRectOkB _ _ _ _ _).mono ?_)); rintro e w' ⟨rfl, o, rfl⟩) | (go_at_call 68; ((with_reducible refine (implEmptyB _ _ _ _ _).mono ?_)); rintro e w' ⟨rfl, o, rfl⟩))
    go_ret
    exact ⟨ret_bool (by simp [Pl.covers, Pl.R.ok, hr]), by go_grown⟩
  cases hr2 : Pl.rectOk x2 y2 a2 b2
  case false =>
    go_enter Try.func69, Try.ntmps69
    go_wp2_with (first | (go_at_call 81; ((with_reducible refine (implRectOkB _ _ _ _ _).mono ?_)); rintro e w' ⟨rfl, o, rfl⟩) | (go_at_call 68; ((with_reducible refine (implEmptyB _ _ _ _ _).mono ?_)); rintro e w' ⟨rfl, o, rfl⟩))
    go_ret
    exact ⟨ret_bool (by simp [Pl.covers, Pl.R.ok, hr2]), by go_grown⟩
  cases eb : Pl.R.empty ⟨x2, y2, a2, b2⟩
  case true =>
    go_enter Try.func69, Try.ntmps69
    go_wp2_with (first | (go_at_call 81; ((with_reducible refine (implRectOkB _ _ _ _ _).mono ?_)); rintro e w' ⟨rfl, o, rfl⟩) | (go_at_call 68; ((with_reducible refine (implEmptyB _ _ _ _ _).mono ?_)); rintro e w' ⟨rfl, o, rfl⟩))
    go_ret
    exact ⟨ret_bool (by simp [Pl.covers, Pl.R.ok, hr, hr2, eb]), by go_grown⟩
  cases ea : Pl.R.empty ⟨x, y, a, b⟩
  case true =>
    go_enter Try.func69, Try.ntmps69
    go_wp2_with (first | (go_at_call 81; ((with_reducible refine (implRectOkB _ _ _ _ _).mono ?_)); rintro e w' ⟨rfl, o, rfl⟩) | (go_at_call 68; ((with_reducible refine (implEmptyB _ _ _ _ _).mono ?_)); rintro e w' ⟨rfl, o, rfl⟩))
    go_ret
    exact ⟨ret_bool (by simp [Pl.covers, eb, ea]), by go_grown⟩
  have ⟨_, _, _, _, _, _, _, _⟩ := Pl.rectOk_t hr
  have ⟨_, _, _, _, _, _, _, _⟩ := Pl.rectOk_t hr2
  by_cases h1 : x ≤ x2 <;> by_cases h2 : y ≤ y2 <;> by_cases h3 : x2 + a2 ≤ x + a <;> by_cases h4 : y2 + b2 ≤ y + b
  all_goals
    go_enter Try.func69, Try.ntmps69
    go_wp2_with (first | (go_at_call 81; ((with_reducible refine (implRectOkB _ _ _ _ _).mono ?_)); rintro e w' ⟨rfl, o, rfl⟩) | (go_at_call 68; ((with_reducible refine (implEmptyB _ _ _ _ _).mono ?_)); rintro e w' ⟨rfl, o, rfl⟩))
    go_ret
    exact ⟨ret_bool (by simp [Pl.covers, Pl.R.ok, hr, hr2, ea, eb, h1, h2, h3, h4]), by go_grown⟩
set_option linter.unusedSimpArgs false
set_option maxHeartbeats 4000000 in
theorem specCovers (x y a b x2 y2 a2 b2 : Int) (w : World) : Calls Try.prog 67 #[.agg #[.int .i64 x, .int .i64 y, .int .i64 a, .int .i64 b], .agg #[.int .i64 x2, .int .i64 y2, .int .i64 a2, .int .i64 b2]] w fun e w' => e = .returned (.bool (Pl.covers ⟨x, y, a, b⟩ ⟨x2, y2, a2, b2⟩)) ∧ Below w.heap.size w w' := by
  have Bw : Below w.heap.size w w := Below.refl _ _
  have bsw := Bw.size
  cases hr : Pl.rectOk x y a b
  case false =>
    go_enter Try.func67, Try.ntmps67
    go_wp2_with fail
    have bv1 : Below w.heap.size w ((w.alloc (.cells #[.int .i64 x, .int .i64 y, .int .i64 a, .int .i64 b] 42)).alloc (.cells #[.int .i64 x2, .int .i64 y2, .int .i64 a2, .int .i64 b2] 42)) := by go_grown
    have sv1 : w.heap.size + 2 ≤ ((w.alloc (.cells #[.int .i64 x, .int .i64 y, .int .i64 a, .int .i64 b] 42)).alloc (.cells #[.int .i64 x2, .int .i64 y2, .int .i64 a2, .int .i64 b2] 42)).heap.size := by simp
    have rv1 : ((w.alloc (.cells #[.int .i64 x, .int .i64 y, .int .i64 a, .int .i64 b] 42)).alloc (.cells #[.int .i64 x2, .int .i64 y2, .int .i64 a2, .int .i64 b2] 42)).heap.size ≤ w.heap.size + 2 := by simp
    have Zrv1 : Box ((w.alloc (.cells #[.int .i64 x, .int .i64 y, .int .i64 a, .int .i64 b] 42)).alloc (.cells #[.int .i64 x2, .int .i64 y2, .int .i64 a2, .int .i64 b2] 42)) (w.heap.size) [.int .i64 x, .int .i64 y, .int .i64 a, .int .i64 b] := Box.of4 (Below.refl _ _) _ (by first | (simp; done) | (simp; omega)) (by simp [go_sem]) (by simp [go_sem]) (by simp [go_sem]) (by simp [go_sem])
    have Zsv1 : Box ((w.alloc (.cells #[.int .i64 x, .int .i64 y, .int .i64 a, .int .i64 b] 42)).alloc (.cells #[.int .i64 x2, .int .i64 y2, .int .i64 a2, .int .i64 b2] 42)) (w.heap.size + 1) [.int .i64 x2, .int .i64 y2, .int .i64 a2, .int .i64 b2] := Box.of4 (Below.refl _ _) _ (by first | (simp; done) | (simp; omega)) (by simp [go_sem]) (by simp [go_sem]) (by simp [go_sem]) (by simp [go_sem])
    generalize ((w.alloc (.cells #[.int .i64 x, .int .i64 y, .int .i64 a, .int .i64 b] 42)).alloc (.cells #[.int .i64 x2, .int .i64 y2, .int .i64 a2, .int .i64 b2] 42)) = v1 at *
    have Bv1 : Below w.heap.size w v1 := Bw.trans (bv1.mono bsw)
    have tv1 := bv1.size
    have bsv1 := Bv1.size
    have Xrv1 := Lib.hid Zrv1
    clear Zrv1
    have Xsv1 := Lib.hid Zsv1
    clear Zsv1
    have ⟨qrv1_0, qrv1_1, qrv1_2, qrv1_3, qrv1_4⟩ := Xrv1.out.open4
    have ⟨qsv1_0, qsv1_1, qsv1_2, qsv1_3, qsv1_4⟩ := Xsv1.out.open4
    refine regionL (S := (fun w' => w'.cell? ⟨w.heap.size, 0, none⟩ = some (.int .i64 x) ∧ w'.cell? ⟨w.heap.size, 1, none⟩ = some (.int .i64 y) ∧ w'.cell? ⟨w.heap.size, 2, none⟩ = some (.int .i64 a) ∧ w'.cell? ⟨w.heap.size, 3, none⟩ = some (.int .i64 b) ∧ w'.cell? ⟨w.heap.size + 1, 0, none⟩ = some (.int .i64 x2) ∧ w'.cell? ⟨w.heap.size + 1, 1, none⟩ = some (.int .i64 y2) ∧ w'.cell? ⟨w.heap.size + 1, 2, none⟩ = some (.int .i64 a2) ∧ w'.cell? ⟨w.heap.size + 1, 3, none⟩ = some (.int .i64 b2))) (L := 18) (by kernel_rfl) ?_ (fun hHeld => ?_)
    · (((try dsimp only); (repeat' apply And.intro) <;> (first | (simp only [World.cell?_drew, *]; done) | (simp (disch := (first | omega | (simp; omega))) only [cell_far, cell_old, World.cell?_drew, *]; done))))
    refine takeL (i := 0) (oi := ?_) (v := ?_) ?_ (by kernel_rfl) (by kernel_rfl) (by kernel_rfl) (by kernel_rfl) ?_ (Or.inl ⟨?_, ?_⟩) (by assumption) ?_
    rotate_left 2
    · (simp only [List.getElem?_toArray, List.getElem?_cons_succ, List.getElem?_cons_zero]; rfl)
    · exact fun _ _ _ h => h
    · rfl
    · (intro w hSw; (try dsimp only at hSw); go_simp; (try with_reducible rfl))
    try simp only [Act.put, List.setIfInBounds_toArray, List.set_cons_zero, List.set_cons_succ]
    refine readyL (rs := [1]) (by kernel_rfl) (by simp) ?_
    refine AllReadyL.cons (o := ?_) ?_ (fun K hK => ?_) AllReadyL.none_
    rotate_left
    · (simp only [List.getElem?_toArray, List.getElem?_cons_succ, List.getElem?_cons_zero]; rfl)
    go_simp
    go_at_call 65
    ((with_reducible refine (specRectOk x y a b _).mono ?_))
    rw [hr]
    rintro e w2 ⟨rfl, hbw2⟩
    have bw2 : Below v1.heap.size v1 w2 := later (by go_grown) hbw2
    have Bw2 : Below w.heap.size w w2 := Bv1.trans (bw2.mono bsv1)
    have sw2 := hbw2.size
    (try simp at sw2)
    have tw2 := bw2.size
    have bsw2 := Bw2.size
    have Xrw2 := Lib.hid (Xrv1.out.step bw2)
    clear Xrv1 qrv1_0 qrv1_1 qrv1_2 qrv1_3 qrv1_4
    have Xsw2 := Lib.hid (Xsv1.out.step bw2)
    clear Xsv1 qsv1_0 qsv1_1 qsv1_2 qsv1_3 qsv1_4
    have ⟨qrw2_0, qrw2_1, qrw2_2, qrw2_3, qrw2_4⟩ := Xrw2.out.open4
    have ⟨qsw2_0, qsw2_1, qsw2_2, qsw2_3, qsw2_4⟩ := Xsw2.out.open4
    refine hK.out _ _ ?_ (fun hHeld => ?_)
    · (((try dsimp only); (repeat' apply And.intro) <;> (first | (simp only [World.cell?_drew, *]; done) | (simp (disch := (first | omega | (simp; omega))) only [cell_far, cell_old, World.cell?_drew, *]; done))))
    clear hK K
    try simp only [Act.put, List.setIfInBounds_toArray, List.set_cons_zero, List.set_cons_succ]
    refine takeL (i := 2) (oi := ?_) (v := ?_) ?_ (by kernel_rfl) (by kernel_rfl) (by kernel_rfl) (by kernel_rfl) ?_ (Or.inl ⟨?_, ?_⟩) (by assumption) ?_
    rotate_left 2
    · (simp only [List.getElem?_toArray, List.getElem?_cons_succ, List.getElem?_cons_zero]; rfl)
    · exact fun _ _ _ h => h
    · rfl
    · (intro w hSw; (try dsimp only at hSw); go_simp; (try with_reducible rfl))
    try simp only [Act.put, List.setIfInBounds_toArray, List.set_cons_zero, List.set_cons_succ]
    refine takeL (i := 3) (oi := ?_) (v := undef) ?_ (by kernel_rfl) (by kernel_rfl) (by kernel_rfl) (by kernel_rfl) ?_ ?_ (by assumption) ?_
    rotate_left
    · (simp only [List.getElem?_toArray, List.getElem?_cons_succ, List.getElem?_cons_zero]; rfl)
    · exact fun _ _ _ h => h
    · exact Or.inr ⟨by rfl, rfl⟩
    try simp only [Act.put, List.setIfInBounds_toArray, List.set_cons_zero, List.set_cons_succ]
    refine takeL (i := 4) (oi := ?_) (v := undef) ?_ (by kernel_rfl) (by kernel_rfl) (by kernel_rfl) (by kernel_rfl) ?_ ?_ (by assumption) ?_
    rotate_left
    · (simp only [List.getElem?_toArray, List.getElem?_cons_succ, List.getElem?_cons_zero]; rfl)
    · exact fun _ _ _ h => h
    · exact Or.inr ⟨by rfl, rfl⟩
    try simp only [Act.put, List.setIfInBounds_toArray, List.set_cons_zero, List.set_cons_succ]
    refine takeL (i := 5) (oi := ?_) (v := ?_) ?_ (by kernel_rfl) (by kernel_rfl) (by kernel_rfl) (by kernel_rfl) ?_ (Or.inl ⟨?_, ?_⟩) (by assumption) ?_
    rotate_left 2
    · (simp only [List.getElem?_toArray, List.getElem?_cons_succ, List.getElem?_cons_zero]; rfl)
    · exact fun _ _ _ h => h
    · rfl
    · (intro w hSw; (try dsimp only at hSw); go_simp; (try with_reducible rfl))
    try simp only [Act.put, List.setIfInBounds_toArray, List.set_cons_zero, List.set_cons_succ]
    refine takeL (i := 6) (oi := ?_) (v := ?_) ?_ (by kernel_rfl) (by kernel_rfl) (by kernel_rfl) (by kernel_rfl) ?_ (Or.inl ⟨?_, ?_⟩) (by assumption) ?_
    rotate_left 2
    · (simp only [List.getElem?_toArray, List.getElem?_cons_succ, List.getElem?_cons_zero]; rfl)
    · exact fun _ _ _ h => h
    · rfl
    · (intro w hSw; (try dsimp only at hSw); go_simp; (try with_reducible rfl))
    try simp only [Act.put, List.setIfInBounds_toArray, List.set_cons_zero, List.set_cons_succ]
    refine takeL (i := 7) (oi := ?_) (v := undef) ?_ (by kernel_rfl) (by kernel_rfl) (by kernel_rfl) (by kernel_rfl) ?_ ?_ (by assumption) ?_
    rotate_left
    · (simp only [List.getElem?_toArray, List.getElem?_cons_succ, List.getElem?_cons_zero]; rfl)
    · exact fun _ _ _ h => h
    · exact Or.inr ⟨by rfl, rfl⟩
    try simp only [Act.put, List.setIfInBounds_toArray, List.set_cons_zero, List.set_cons_succ]
    refine takeL (i := 8) (oi := ?_) (v := undef) ?_ (by kernel_rfl) (by kernel_rfl) (by kernel_rfl) (by kernel_rfl) ?_ ?_ (by assumption) ?_
    rotate_left
    · (simp only [List.getElem?_toArray, List.getElem?_cons_succ, List.getElem?_cons_zero]; rfl)
    · exact fun _ _ _ h => h
    · exact Or.inr ⟨by rfl, rfl⟩
    try simp only [Act.put, List.setIfInBounds_toArray, List.set_cons_zero, List.set_cons_succ]
    refine takeL (i := 9) (oi := ?_) (v := undef) ?_ (by kernel_rfl) (by kernel_rfl) (by kernel_rfl) (by kernel_rfl) ?_ ?_ (by assumption) ?_
    rotate_left
    · (simp only [List.getElem?_toArray, List.getElem?_cons_succ, List.getElem?_cons_zero]; rfl)
    · exact fun _ _ _ h => h
    · exact Or.inr ⟨by rfl, rfl⟩
    try simp only [Act.put, List.setIfInBounds_toArray, List.set_cons_zero, List.set_cons_succ]
    refine takeL (i := 10) (oi := ?_) (v := undef) ?_ (by kernel_rfl) (by kernel_rfl) (by kernel_rfl) (by kernel_rfl) ?_ ?_ (by assumption) ?_
    rotate_left
    · (simp only [List.getElem?_toArray, List.getElem?_cons_succ, List.getElem?_cons_zero]; rfl)
    · exact fun _ _ _ h => h
    · exact Or.inr ⟨by rfl, rfl⟩
    try simp only [Act.put, List.setIfInBounds_toArray, List.set_cons_zero, List.set_cons_succ]
    refine takeL (i := 11) (oi := ?_) (v := undef) ?_ (by kernel_rfl) (by kernel_rfl) (by kernel_rfl) (by kernel_rfl) ?_ ?_ (by assumption) ?_
    rotate_left
    · (simp only [List.getElem?_toArray, List.getElem?_cons_succ, List.getElem?_cons_zero]; rfl)
    · exact fun _ _ _ h => h
    · exact Or.inr ⟨by rfl, rfl⟩
    try simp only [Act.put, List.setIfInBounds_toArray, List.set_cons_zero, List.set_cons_succ]
    refine takeL (i := 12) (oi := ?_) (v := undef) ?_ (by kernel_rfl) (by kernel_rfl) (by kernel_rfl) (by kernel_rfl) ?_ ?_ (by assumption) ?_
    rotate_left
    · (simp only [List.getElem?_toArray, List.getElem?_cons_succ, List.getElem?_cons_zero]; rfl)
    · exact fun _ _ _ h => h
    · exact Or.inr ⟨by rfl, rfl⟩
    try simp only [Act.put, List.setIfInBounds_toArray, List.set_cons_zero, List.set_cons_succ]
    refine takeL (i := 13) (oi := ?_) (v := undef) ?_ (by kernel_rfl) (by kernel_rfl) (by kernel_rfl) (by kernel_rfl) ?_ ?_ (by assumption) ?_
    rotate_left
    · (simp only [List.getElem?_toArray, List.getElem?_cons_succ, List.getElem?_cons_zero]; rfl)
    · exact fun _ _ _ h => h
    · exact Or.inr ⟨by rfl, rfl⟩
    try simp only [Act.put, List.setIfInBounds_toArray, List.set_cons_zero, List.set_cons_succ]
    refine takeL (i := 14) (oi := ?_) (v := undef) ?_ (by kernel_rfl) (by kernel_rfl) (by kernel_rfl) (by kernel_rfl) ?_ ?_ (by assumption) ?_
    rotate_left
    · (simp only [List.getElem?_toArray, List.getElem?_cons_succ, List.getElem?_cons_zero]; rfl)
    · exact fun _ _ _ h => h
    · exact Or.inr ⟨by rfl, rfl⟩
    try simp only [Act.put, List.setIfInBounds_toArray, List.set_cons_zero, List.set_cons_succ]
    refine takeL (i := 15) (oi := ?_) (v := undef) ?_ (by kernel_rfl) (by kernel_rfl) (by kernel_rfl) (by kernel_rfl) ?_ ?_ (by assumption) ?_
    rotate_left
    · (simp only [List.getElem?_toArray, List.getElem?_cons_succ, List.getElem?_cons_zero]; rfl)
    · exact fun _ _ _ h => h
    · exact Or.inr ⟨by rfl, rfl⟩
    try simp only [Act.put, List.setIfInBounds_toArray, List.set_cons_zero, List.set_cons_succ]
    refine takeL (i := 16) (oi := ?_) (v := ?_) ?_ (by kernel_rfl) (by kernel_rfl) (by kernel_rfl) (by kernel_rfl) ?_ (Or.inl ⟨?_, ?_⟩) (by assumption) ?_
    rotate_left 2
    · (simp only [List.getElem?_toArray, List.getElem?_cons_succ, List.getElem?_cons_zero]; rfl)
    · exact fun _ _ _ h => h
    · rfl
    · (intro w hSw; (try dsimp only at hSw); go_simp; (try with_reducible rfl))
    try simp only [Act.put, List.setIfInBounds_toArray, List.set_cons_zero, List.set_cons_succ]
    refine takeL (i := 17) (oi := ?_) (v := ?_) ?_ (by kernel_rfl) (by kernel_rfl) (by kernel_rfl) (by kernel_rfl) ?_ (Or.inl ⟨?_, ?_⟩) (by assumption) ?_
    rotate_left 2
    · (simp only [List.getElem?_toArray, List.getElem?_cons_succ, List.getElem?_cons_zero]; rfl)
    · exact fun _ _ _ h => h
    · rfl
    · (intro w hSw; (try dsimp only at hSw); go_simp; (try with_reducible rfl))
    try simp only [Act.put, List.setIfInBounds_toArray, List.set_cons_zero, List.set_cons_succ]
    refine doneL (by kernel_rfl) ?_ _
    go_wp2_with fail
    go_ret
    exact ⟨ret_bool (by simp [Pl.covers, Pl.R.ok, hr]), by go_grown⟩
  cases hr2 : Pl.rectOk x2 y2 a2 b2
  case false =>
    go_enter Try.func67, Try.ntmps67
    go_wp2_with fail
    have bv1 : Below w.heap.size w ((w.alloc (.cells #[.int .i64 x, .int .i64 y, .int .i64 a, .int .i64 b] 42)).alloc (.cells #[.int .i64 x2, .int .i64 y2, .int .i64 a2, .int .i64 b2] 42)) := by go_grown
    have sv1 : w.heap.size + 2 ≤ ((w.alloc (.cells #[.int .i64 x, .int .i64 y, .int .i64 a, .int .i64 b] 42)).alloc (.cells #[.int .i64 x2, .int .i64 y2, .int .i64 a2, .int .i64 b2] 42)).heap.size := by simp
    have rv1 : ((w.alloc (.cells #[.int .i64 x, .int .i64 y, .int .i64 a, .int .i64 b] 42)).alloc (.cells #[.int .i64 x2, .int .i64 y2, .int .i64 a2, .int .i64 b2] 42)).heap.size ≤ w.heap.size + 2 := by simp
    have Zrv1 : Box ((w.alloc (.cells #[.int .i64 x, .int .i64 y, .int .i64 a, .int .i64 b] 42)).alloc (.cells #[.int .i64 x2, .int .i64 y2, .int .i64 a2, .int .i64 b2] 42)) (w.heap.size) [.int .i64 x, .int .i64 y, .int .i64 a, .int .i64 b] := Box.of4 (Below.refl _ _) _ (by first | (simp; done) | (simp; omega)) (by simp [go_sem]) (by simp [go_sem]) (by simp [go_sem]) (by simp [go_sem])
    have Zsv1 : Box ((w.alloc (.cells #[.int .i64 x, .int .i64 y, .int .i64 a, .int .i64 b] 42)).alloc (.cells #[.int .i64 x2, .int .i64 y2, .int .i64 a2, .int .i64 b2] 42)) (w.heap.size + 1) [.int .i64 x2, .int .i64 y2, .int .i64 a2, .int .i64 b2] := Box.of4 (Below.refl _ _) _ (by first | (simp; done) | (simp; omega)) (by simp [go_sem]) (by simp [go_sem]) (by simp [go_sem]) (by simp [go_sem])
    generalize ((w.alloc (.cells #[.int .i64 x, .int .i64 y, .int .i64 a, .int .i64 b] 42)).alloc (.cells #[.int .i64 x2, .int .i64 y2, .int .i64 a2, .int .i64 b2] 42)) = v1 at *
    have Bv1 : Below w.heap.size w v1 := Bw.trans (bv1.mono bsw)
    have tv1 := bv1.size
    have bsv1 := Bv1.size
    have Xrv1 := Lib.hid Zrv1
    clear Zrv1
    have Xsv1 := Lib.hid Zsv1
    clear Zsv1
    have ⟨qrv1_0, qrv1_1, qrv1_2, qrv1_3, qrv1_4⟩ := Xrv1.out.open4
    have ⟨qsv1_0, qsv1_1, qsv1_2, qsv1_3, qsv1_4⟩ := Xsv1.out.open4
    refine regionL (S := (fun w' => w'.cell? ⟨w.heap.size, 0, none⟩ = some (.int .i64 x) ∧ w'.cell? ⟨w.heap.size, 1, none⟩ = some (.int .i64 y) ∧ w'.cell? ⟨w.heap.size, 2, none⟩ = some (.int .i64 a) ∧ w'.cell? ⟨w.heap.size, 3, none⟩ = some (.int .i64 b) ∧ w'.cell? ⟨w.heap.size + 1, 0, none⟩ = some (.int .i64 x2) ∧ w'.cell? ⟨w.heap.size + 1, 1, none⟩ = some (.int .i64 y2) ∧ w'.cell? ⟨w.heap.size + 1, 2, none⟩ = some (.int .i64 a2) ∧ w'.cell? ⟨w.heap.size + 1, 3, none⟩ = some (.int .i64 b2))) (L := 18) (by kernel_rfl) ?_ (fun hHeld => ?_)
    · (((try dsimp only); (repeat' apply And.intro) <;> (first | (simp only [World.cell?_drew, *]; done) | (simp (disch := (first | omega | (simp; omega))) only [cell_far, cell_old, World.cell?_drew, *]; done))))
    refine takeL (i := 0) (oi := ?_) (v := ?_) ?_ (by kernel_rfl) (by kernel_rfl) (by kernel_rfl) (by kernel_rfl) ?_ (Or.inl ⟨?_, ?_⟩) (by assumption) ?_
    rotate_left 2
    · (simp only [List.getElem?_toArray, List.getElem?_cons_succ, List.getElem?_cons_zero]; rfl)
    · exact fun _ _ _ h => h
    · rfl
    · (intro w hSw; (try dsimp only at hSw); go_simp; (try with_reducible rfl))
    try simp only [Act.put, List.setIfInBounds_toArray, List.set_cons_zero, List.set_cons_succ]
    refine readyL (rs := [1]) (by kernel_rfl) (by simp) ?_
    refine AllReadyL.cons (o := ?_) ?_ (fun K hK => ?_) AllReadyL.none_
    rotate_left
    · (simp only [List.getElem?_toArray, List.getElem?_cons_succ, List.getElem?_cons_zero]; rfl)
    go_simp
    go_at_call 65
    ((with_reducible refine (specRectOk x y a b _).mono ?_))
    rw [hr]
    rintro e w2 ⟨rfl, hbw2⟩
    have bw2 : Below v1.heap.size v1 w2 := later (by go_grown) hbw2
    have Bw2 : Below w.heap.size w w2 := Bv1.trans (bw2.mono bsv1)
    have sw2 := hbw2.size
    (try simp at sw2)
    have tw2 := bw2.size
    have bsw2 := Bw2.size
    have Xrw2 := Lib.hid (Xrv1.out.step bw2)
    clear Xrv1 qrv1_0 qrv1_1 qrv1_2 qrv1_3 qrv1_4
    have Xsw2 := Lib.hid (Xsv1.out.step bw2)
    clear Xsv1 qsv1_0 qsv1_1 qsv1_2 qsv1_3 qsv1_4
    have ⟨qrw2_0, qrw2_1, qrw2_2, qrw2_3, qrw2_4⟩ := Xrw2.out.open4
    have ⟨qsw2_0, qsw2_1, qsw2_2, qsw2_3, qsw2_4⟩ := Xsw2.out.open4
    refine hK.out _ _ ?_ (fun hHeld => ?_)
    · (((try dsimp only); (repeat' apply And.intro) <;> (first | (simp only [World.cell?_drew, *]; done) | (simp (disch := (first | omega | (simp; omega))) only [cell_far, cell_old, World.cell?_drew, *]; done))))
    clear hK K
    try simp only [Act.put, List.setIfInBounds_toArray, List.set_cons_zero, List.set_cons_succ]
    refine takeL (i := 2) (oi := ?_) (v := ?_) ?_ (by kernel_rfl) (by kernel_rfl) (by kernel_rfl) (by kernel_rfl) ?_ (Or.inl ⟨?_, ?_⟩) (by assumption) ?_
    rotate_left 2
    · (simp only [List.getElem?_toArray, List.getElem?_cons_succ, List.getElem?_cons_zero]; rfl)
    · exact fun _ _ _ h => h
    · rfl
    · (intro w hSw; (try dsimp only at hSw); go_simp; (try with_reducible rfl))
    try simp only [Act.put, List.setIfInBounds_toArray, List.set_cons_zero, List.set_cons_succ]
    refine takeL (i := 3) (oi := ?_) (v := ?_) ?_ (by kernel_rfl) (by kernel_rfl) (by kernel_rfl) (by kernel_rfl) ?_ (Or.inl ⟨?_, ?_⟩) (by assumption) ?_
    rotate_left 2
    · (simp only [List.getElem?_toArray, List.getElem?_cons_succ, List.getElem?_cons_zero]; rfl)
    · exact fun _ _ _ h => h
    · rfl
    · (intro w hSw; (try dsimp only at hSw); go_simp; (try with_reducible rfl))
    try simp only [Act.put, List.setIfInBounds_toArray, List.set_cons_zero, List.set_cons_succ]
    refine readyL (rs := [4]) (by kernel_rfl) (by simp) ?_
    refine AllReadyL.cons (o := ?_) ?_ (fun K hK => ?_) AllReadyL.none_
    rotate_left
    · (simp only [List.getElem?_toArray, List.getElem?_cons_succ, List.getElem?_cons_zero]; rfl)
    go_simp
    go_at_call 65
    ((with_reducible refine (specRectOk x2 y2 a2 b2 _).mono ?_))
    rw [hr2]
    rintro e w3 ⟨rfl, hbw3⟩
    have bw3 : Below w2.heap.size w2 w3 := later (by go_grown) hbw3
    have Bw3 : Below w.heap.size w w3 := Bw2.trans (bw3.mono bsw2)
    have sw3 := hbw3.size
    (try simp at sw3)
    have tw3 := bw3.size
    have bsw3 := Bw3.size
    have Xrw3 := Lib.hid (Xrw2.out.step bw3)
    clear Xrw2 qrw2_0 qrw2_1 qrw2_2 qrw2_3 qrw2_4
    have Xsw3 := Lib.hid (Xsw2.out.step bw3)
    clear Xsw2 qsw2_0 qsw2_1 qsw2_2 qsw2_3 qsw2_4
    have ⟨qrw3_0, qrw3_1, qrw3_2, qrw3_3, qrw3_4⟩ := Xrw3.out.open4
    have ⟨qsw3_0, qsw3_1, qsw3_2, qsw3_3, qsw3_4⟩ := Xsw3.out.open4
    refine hK.out _ _ ?_ (fun hHeld => ?_)
    · (((try dsimp only); (repeat' apply And.intro) <;> (first | (simp only [World.cell?_drew, *]; done) | (simp (disch := (first | omega | (simp; omega))) only [cell_far, cell_old, World.cell?_drew, *]; done))))
    clear hK K
    try simp only [Act.put, List.setIfInBounds_toArray, List.set_cons_zero, List.set_cons_succ]
    refine takeL (i := 5) (oi := ?_) (v := ?_) ?_ (by kernel_rfl) (by kernel_rfl) (by kernel_rfl) (by kernel_rfl) ?_ (Or.inl ⟨?_, ?_⟩) (by assumption) ?_
    rotate_left 2
    · (simp only [List.getElem?_toArray, List.getElem?_cons_succ, List.getElem?_cons_zero]; rfl)
    · exact fun _ _ _ h => h
    · rfl
    · (intro w hSw; (try dsimp only at hSw); go_simp; (try with_reducible rfl))
    try simp only [Act.put, List.setIfInBounds_toArray, List.set_cons_zero, List.set_cons_succ]
    refine takeL (i := 6) (oi := ?_) (v := ?_) ?_ (by kernel_rfl) (by kernel_rfl) (by kernel_rfl) (by kernel_rfl) ?_ (Or.inl ⟨?_, ?_⟩) (by assumption) ?_
    rotate_left 2
    · (simp only [List.getElem?_toArray, List.getElem?_cons_succ, List.getElem?_cons_zero]; rfl)
    · exact fun _ _ _ h => h
    · rfl
    · (intro w hSw; (try dsimp only at hSw); go_simp; (try with_reducible rfl))
    try simp only [Act.put, List.setIfInBounds_toArray, List.set_cons_zero, List.set_cons_succ]
    refine takeL (i := 7) (oi := ?_) (v := undef) ?_ (by kernel_rfl) (by kernel_rfl) (by kernel_rfl) (by kernel_rfl) ?_ ?_ (by assumption) ?_
    rotate_left
    · (simp only [List.getElem?_toArray, List.getElem?_cons_succ, List.getElem?_cons_zero]; rfl)
    · exact fun _ _ _ h => h
    · exact Or.inr ⟨by rfl, rfl⟩
    try simp only [Act.put, List.setIfInBounds_toArray, List.set_cons_zero, List.set_cons_succ]
    refine takeL (i := 8) (oi := ?_) (v := undef) ?_ (by kernel_rfl) (by kernel_rfl) (by kernel_rfl) (by kernel_rfl) ?_ ?_ (by assumption) ?_
    rotate_left
    · (simp only [List.getElem?_toArray, List.getElem?_cons_succ, List.getElem?_cons_zero]; rfl)
    · exact fun _ _ _ h => h
    · exact Or.inr ⟨by rfl, rfl⟩
    try simp only [Act.put, List.setIfInBounds_toArray, List.set_cons_zero, List.set_cons_succ]
    refine takeL (i := 9) (oi := ?_) (v := undef) ?_ (by kernel_rfl) (by kernel_rfl) (by kernel_rfl) (by kernel_rfl) ?_ ?_ (by assumption) ?_
    rotate_left
    · (simp only [List.getElem?_toArray, List.getElem?_cons_succ, List.getElem?_cons_zero]; rfl)
    · exact fun _ _ _ h => h
    · exact Or.inr ⟨by rfl, rfl⟩
    try simp only [Act.put, List.setIfInBounds_toArray, List.set_cons_zero, List.set_cons_succ]
    refine takeL (i := 10) (oi := ?_) (v := undef) ?_ (by kernel_rfl) (by kernel_rfl) (by kernel_rfl) (by kernel_rfl) ?_ ?_ (by assumption) ?_
    rotate_left
    · (simp only [List.getElem?_toArray, List.getElem?_cons_succ, List.getElem?_cons_zero]; rfl)
    · exact fun _ _ _ h => h
    · exact Or.inr ⟨by rfl, rfl⟩
    try simp only [Act.put, List.setIfInBounds_toArray, List.set_cons_zero, List.set_cons_succ]
    refine takeL (i := 11) (oi := ?_) (v := undef) ?_ (by kernel_rfl) (by kernel_rfl) (by kernel_rfl) (by kernel_rfl) ?_ ?_ (by assumption) ?_
    rotate_left
    · (simp only [List.getElem?_toArray, List.getElem?_cons_succ, List.getElem?_cons_zero]; rfl)
    · exact fun _ _ _ h => h
    · exact Or.inr ⟨by rfl, rfl⟩
    try simp only [Act.put, List.setIfInBounds_toArray, List.set_cons_zero, List.set_cons_succ]
    refine takeL (i := 12) (oi := ?_) (v := undef) ?_ (by kernel_rfl) (by kernel_rfl) (by kernel_rfl) (by kernel_rfl) ?_ ?_ (by assumption) ?_
    rotate_left
    · (simp only [List.getElem?_toArray, List.getElem?_cons_succ, List.getElem?_cons_zero]; rfl)
    · exact fun _ _ _ h => h
    · exact Or.inr ⟨by rfl, rfl⟩
    try simp only [Act.put, List.setIfInBounds_toArray, List.set_cons_zero, List.set_cons_succ]
    refine takeL (i := 13) (oi := ?_) (v := undef) ?_ (by kernel_rfl) (by kernel_rfl) (by kernel_rfl) (by kernel_rfl) ?_ ?_ (by assumption) ?_
    rotate_left
    · (simp only [List.getElem?_toArray, List.getElem?_cons_succ, List.getElem?_cons_zero]; rfl)
    · exact fun _ _ _ h => h
    · exact Or.inr ⟨by rfl, rfl⟩
    try simp only [Act.put, List.setIfInBounds_toArray, List.set_cons_zero, List.set_cons_succ]
    refine takeL (i := 14) (oi := ?_) (v := undef) ?_ (by kernel_rfl) (by kernel_rfl) (by kernel_rfl) (by kernel_rfl) ?_ ?_ (by assumption) ?_
    rotate_left
    · (simp only [List.getElem?_toArray, List.getElem?_cons_succ, List.getElem?_cons_zero]; rfl)
    · exact fun _ _ _ h => h
    · exact Or.inr ⟨by rfl, rfl⟩
    try simp only [Act.put, List.setIfInBounds_toArray, List.set_cons_zero, List.set_cons_succ]
    refine takeL (i := 15) (oi := ?_) (v := undef) ?_ (by kernel_rfl) (by kernel_rfl) (by kernel_rfl) (by kernel_rfl) ?_ ?_ (by assumption) ?_
    rotate_left
    · (simp only [List.getElem?_toArray, List.getElem?_cons_succ, List.getElem?_cons_zero]; rfl)
    · exact fun _ _ _ h => h
    · exact Or.inr ⟨by rfl, rfl⟩
    try simp only [Act.put, List.setIfInBounds_toArray, List.set_cons_zero, List.set_cons_succ]
    refine takeL (i := 16) (oi := ?_) (v := ?_) ?_ (by kernel_rfl) (by kernel_rfl) (by kernel_rfl) (by kernel_rfl) ?_ (Or.inl ⟨?_, ?_⟩) (by assumption) ?_
    rotate_left 2
    · (simp only [List.getElem?_toArray, List.getElem?_cons_succ, List.getElem?_cons_zero]; rfl)
    · exact fun _ _ _ h => h
    · rfl
    · (intro w hSw; (try dsimp only at hSw); go_simp; (try with_reducible rfl))
    try simp only [Act.put, List.setIfInBounds_toArray, List.set_cons_zero, List.set_cons_succ]
    refine takeL (i := 17) (oi := ?_) (v := ?_) ?_ (by kernel_rfl) (by kernel_rfl) (by kernel_rfl) (by kernel_rfl) ?_ (Or.inl ⟨?_, ?_⟩) (by assumption) ?_
    rotate_left 2
    · (simp only [List.getElem?_toArray, List.getElem?_cons_succ, List.getElem?_cons_zero]; rfl)
    · exact fun _ _ _ h => h
    · rfl
    · (intro w hSw; (try dsimp only at hSw); go_simp; (try with_reducible rfl))
    try simp only [Act.put, List.setIfInBounds_toArray, List.set_cons_zero, List.set_cons_succ]
    refine doneL (by kernel_rfl) ?_ _
    go_wp2_with fail
    go_ret
    exact ⟨ret_bool (by simp [Pl.covers, Pl.R.ok, hr2]), by go_grown⟩
  cases eb : Pl.R.empty ⟨x2, y2, a2, b2⟩
  case true =>
    go_enter Try.func67, Try.ntmps67
    go_wp2_with fail
    have bv1 : Below w.heap.size w ((w.alloc (.cells #[.int .i64 x, .int .i64 y, .int .i64 a, .int .i64 b] 42)).alloc (.cells #[.int .i64 x2, .int .i64 y2, .int .i64 a2, .int .i64 b2] 42)) := by go_grown
    have sv1 : w.heap.size + 2 ≤ ((w.alloc (.cells #[.int .i64 x, .int .i64 y, .int .i64 a, .int .i64 b] 42)).alloc (.cells #[.int .i64 x2, .int .i64 y2, .int .i64 a2, .int .i64 b2] 42)).heap.size := by simp
    have rv1 : ((w.alloc (.cells #[.int .i64 x, .int .i64 y, .int .i64 a, .int .i64 b] 42)).alloc (.cells #[.int .i64 x2, .int .i64 y2, .int .i64 a2, .int .i64 b2] 42)).heap.size ≤ w.heap.size + 2 := by simp
    have Zrv1 : Box ((w.alloc (.cells #[.int .i64 x, .int .i64 y, .int .i64 a, .int .i64 b] 42)).alloc (.cells #[.int .i64 x2, .int .i64 y2, .int .i64 a2, .int .i64 b2] 42)) (w.heap.size) [.int .i64 x, .int .i64 y, .int .i64 a, .int .i64 b] := Box.of4 (Below.refl _ _) _ (by first | (simp; done) | (simp; omega)) (by simp [go_sem]) (by simp [go_sem]) (by simp [go_sem]) (by simp [go_sem])
    have Zsv1 : Box ((w.alloc (.cells #[.int .i64 x, .int .i64 y, .int .i64 a, .int .i64 b] 42)).alloc (.cells #[.int .i64 x2, .int .i64 y2, .int .i64 a2, .int .i64 b2] 42)) (w.heap.size + 1) [.int .i64 x2, .int .i64 y2, .int .i64 a2, .int .i64 b2] := Box.of4 (Below.refl _ _) _ (by first | (simp; done) | (simp; omega)) (by simp [go_sem]) (by simp [go_sem]) (by simp [go_sem]) (by simp [go_sem])
    generalize ((w.alloc (.cells #[.int .i64 x, .int .i64 y, .int .i64 a, .int .i64 b] 42)).alloc (.cells #[.int .i64 x2, .int .i64 y2, .int .i64 a2, .int .i64 b2] 42)) = v1 at *
    have Bv1 : Below w.heap.size w v1 := Bw.trans (bv1.mono bsw)
    have tv1 := bv1.size
    have bsv1 := Bv1.size
    have Xrv1 := Lib.hid Zrv1
    clear Zrv1
    have Xsv1 := Lib.hid Zsv1
    clear Zsv1
    have ⟨qrv1_0, qrv1_1, qrv1_2, qrv1_3, qrv1_4⟩ := Xrv1.out.open4
    have ⟨qsv1_0, qsv1_1, qsv1_2, qsv1_3, qsv1_4⟩ := Xsv1.out.open4
    refine regionL (S := (fun w' => w'.cell? ⟨w.heap.size, 0, none⟩ = some (.int .i64 x) ∧ w'.cell? ⟨w.heap.size, 1, none⟩ = some (.int .i64 y) ∧ w'.cell? ⟨w.heap.size, 2, none⟩ = some (.int .i64 a) ∧ w'.cell? ⟨w.heap.size, 3, none⟩ = some (.int .i64 b) ∧ w'.cell? ⟨w.heap.size + 1, 0, none⟩ = some (.int .i64 x2) ∧ w'.cell? ⟨w.heap.size + 1, 1, none⟩ = some (.int .i64 y2) ∧ w'.cell? ⟨w.heap.size + 1, 2, none⟩ = some (.int .i64 a2) ∧ w'.cell? ⟨w.heap.size + 1, 3, none⟩ = some (.int .i64 b2))) (L := 18) (by kernel_rfl) ?_ (fun hHeld => ?_)
    · (((try dsimp only); (repeat' apply And.intro) <;> (first | (simp only [World.cell?_drew, *]; done) | (simp (disch := (first | omega | (simp; omega))) only [cell_far, cell_old, World.cell?_drew, *]; done))))
    refine takeL (i := 0) (oi := ?_) (v := ?_) ?_ (by kernel_rfl) (by kernel_rfl) (by kernel_rfl) (by kernel_rfl) ?_ (Or.inl ⟨?_, ?_⟩) (by assumption) ?_
    rotate_left 2
    · (simp only [List.getElem?_toArray, List.getElem?_cons_succ, List.getElem?_cons_zero]; rfl)
    · exact fun _ _ _ h => h
    · rfl
    · (intro w hSw; (try dsimp only at hSw); go_simp; (try with_reducible rfl))
    try simp only [Act.put, List.setIfInBounds_toArray, List.set_cons_zero, List.set_cons_succ]
    refine readyL (rs := [1]) (by kernel_rfl) (by simp) ?_
    refine AllReadyL.cons (o := ?_) ?_ (fun K hK => ?_) AllReadyL.none_
    rotate_left
    · (simp only [List.getElem?_toArray, List.getElem?_cons_succ, List.getElem?_cons_zero]; rfl)
    go_simp
    go_at_call 65
    ((with_reducible refine (specRectOk x y a b _).mono ?_))
    rw [hr]
    rintro e w2 ⟨rfl, hbw2⟩
    have bw2 : Below v1.heap.size v1 w2 := later (by go_grown) hbw2
    have Bw2 : Below w.heap.size w w2 := Bv1.trans (bw2.mono bsv1)
    have sw2 := hbw2.size
    (try simp at sw2)
    have tw2 := bw2.size
    have bsw2 := Bw2.size
    have Xrw2 := Lib.hid (Xrv1.out.step bw2)
    clear Xrv1 qrv1_0 qrv1_1 qrv1_2 qrv1_3 qrv1_4
    have Xsw2 := Lib.hid (Xsv1.out.step bw2)
    clear Xsv1 qsv1_0 qsv1_1 qsv1_2 qsv1_3 qsv1_4
    have ⟨qrw2_0, qrw2_1, qrw2_2, qrw2_3, qrw2_4⟩ := Xrw2.out.open4
    have ⟨qsw2_0, qsw2_1, qsw2_2, qsw2_3, qsw2_4⟩ := Xsw2.out.open4
    refine hK.out _ _ ?_ (fun hHeld => ?_)
    · (((try dsimp only); (repeat' apply And.intro) <;> (first | (simp only [World.cell?_drew, *]; done) | (simp (disch := (first | omega | (simp; omega))) only [cell_far, cell_old, World.cell?_drew, *]; done))))
    clear hK K
    try simp only [Act.put, List.setIfInBounds_toArray, List.set_cons_zero, List.set_cons_succ]
    refine takeL (i := 2) (oi := ?_) (v := ?_) ?_ (by kernel_rfl) (by kernel_rfl) (by kernel_rfl) (by kernel_rfl) ?_ (Or.inl ⟨?_, ?_⟩) (by assumption) ?_
    rotate_left 2
    · (simp only [List.getElem?_toArray, List.getElem?_cons_succ, List.getElem?_cons_zero]; rfl)
    · exact fun _ _ _ h => h
    · rfl
    · (intro w hSw; (try dsimp only at hSw); go_simp; (try with_reducible rfl))
    try simp only [Act.put, List.setIfInBounds_toArray, List.set_cons_zero, List.set_cons_succ]
    refine takeL (i := 3) (oi := ?_) (v := ?_) ?_ (by kernel_rfl) (by kernel_rfl) (by kernel_rfl) (by kernel_rfl) ?_ (Or.inl ⟨?_, ?_⟩) (by assumption) ?_
    rotate_left 2
    · (simp only [List.getElem?_toArray, List.getElem?_cons_succ, List.getElem?_cons_zero]; rfl)
    · exact fun _ _ _ h => h
    · rfl
    · (intro w hSw; (try dsimp only at hSw); go_simp; (try with_reducible rfl))
    try simp only [Act.put, List.setIfInBounds_toArray, List.set_cons_zero, List.set_cons_succ]
    refine readyL (rs := [4]) (by kernel_rfl) (by simp) ?_
    refine AllReadyL.cons (o := ?_) ?_ (fun K hK => ?_) AllReadyL.none_
    rotate_left
    · (simp only [List.getElem?_toArray, List.getElem?_cons_succ, List.getElem?_cons_zero]; rfl)
    go_simp
    go_at_call 65
    ((with_reducible refine (specRectOk x2 y2 a2 b2 _).mono ?_))
    rw [hr2]
    rintro e w3 ⟨rfl, hbw3⟩
    have bw3 : Below w2.heap.size w2 w3 := later (by go_grown) hbw3
    have Bw3 : Below w.heap.size w w3 := Bw2.trans (bw3.mono bsw2)
    have sw3 := hbw3.size
    (try simp at sw3)
    have tw3 := bw3.size
    have bsw3 := Bw3.size
    have Xrw3 := Lib.hid (Xrw2.out.step bw3)
    clear Xrw2 qrw2_0 qrw2_1 qrw2_2 qrw2_3 qrw2_4
    have Xsw3 := Lib.hid (Xsw2.out.step bw3)
    clear Xsw2 qsw2_0 qsw2_1 qsw2_2 qsw2_3 qsw2_4
    have ⟨qrw3_0, qrw3_1, qrw3_2, qrw3_3, qrw3_4⟩ := Xrw3.out.open4
    have ⟨qsw3_0, qsw3_1, qsw3_2, qsw3_3, qsw3_4⟩ := Xsw3.out.open4
    refine hK.out _ _ ?_ (fun hHeld => ?_)
    · (((try dsimp only); (repeat' apply And.intro) <;> (first | (simp only [World.cell?_drew, *]; done) | (simp (disch := (first | omega | (simp; omega))) only [cell_far, cell_old, World.cell?_drew, *]; done))))
    clear hK K
    try simp only [Act.put, List.setIfInBounds_toArray, List.set_cons_zero, List.set_cons_succ]
    refine takeL (i := 5) (oi := ?_) (v := ?_) ?_ (by kernel_rfl) (by kernel_rfl) (by kernel_rfl) (by kernel_rfl) ?_ (Or.inl ⟨?_, ?_⟩) (by assumption) ?_
    rotate_left 2
    · (simp only [List.getElem?_toArray, List.getElem?_cons_succ, List.getElem?_cons_zero]; rfl)
    · exact fun _ _ _ h => h
    · rfl
    · (intro w hSw; (try dsimp only at hSw); go_simp; (try with_reducible rfl))
    try simp only [Act.put, List.setIfInBounds_toArray, List.set_cons_zero, List.set_cons_succ]
    refine takeL (i := 6) (oi := ?_) (v := ?_) ?_ (by kernel_rfl) (by kernel_rfl) (by kernel_rfl) (by kernel_rfl) ?_ (Or.inl ⟨?_, ?_⟩) (by assumption) ?_
    rotate_left 2
    · (simp only [List.getElem?_toArray, List.getElem?_cons_succ, List.getElem?_cons_zero]; rfl)
    · exact fun _ _ _ h => h
    · rfl
    · (intro w hSw; (try dsimp only at hSw); go_simp; (try with_reducible rfl))
    try simp only [Act.put, List.setIfInBounds_toArray, List.set_cons_zero, List.set_cons_succ]
    refine takeL (i := 7) (oi := ?_) (v := ?_) ?_ (by kernel_rfl) (by kernel_rfl) (by kernel_rfl) (by kernel_rfl) ?_ (Or.inl ⟨?_, ?_⟩) (by assumption) ?_
    rotate_left 2
    · (simp only [List.getElem?_toArray, List.getElem?_cons_succ, List.getElem?_cons_zero]; rfl)
    · exact fun _ _ _ h => h
    · rfl
    · (intro w hSw; (try dsimp only at hSw); go_simp; (try with_reducible rfl))
    try simp only [Act.put, List.setIfInBounds_toArray, List.set_cons_zero, List.set_cons_succ]
    refine readyL (rs := [8]) (by kernel_rfl) (by simp) ?_
    refine AllReadyL.cons (o := ?_) ?_ (fun K hK => ?_) AllReadyL.none_
    rotate_left
    · (simp only [List.getElem?_toArray, List.getElem?_cons_succ, List.getElem?_cons_zero]; rfl)
    go_simp
    go_at_call 66
    ((with_reducible refine (l02Empty_any x2 y2 a2 b2 _).mono ?_))
    rw [eb]
    rintro e w4 ⟨rfl, hbw4⟩
    have bw4 : Below w3.heap.size w3 w4 := later (by go_grown) hbw4
    have Bw4 : Below w.heap.size w w4 := Bw3.trans (bw4.mono bsw3)
    have sw4 := hbw4.size
    (try simp at sw4)
    have tw4 := bw4.size
    have bsw4 := Bw4.size
    have Xrw4 := Lib.hid (Xrw3.out.step bw4)
    clear Xrw3 qrw3_0 qrw3_1 qrw3_2 qrw3_3 qrw3_4
    have Xsw4 := Lib.hid (Xsw3.out.step bw4)
    clear Xsw3 qsw3_0 qsw3_1 qsw3_2 qsw3_3 qsw3_4
    have ⟨qrw4_0, qrw4_1, qrw4_2, qrw4_3, qrw4_4⟩ := Xrw4.out.open4
    have ⟨qsw4_0, qsw4_1, qsw4_2, qsw4_3, qsw4_4⟩ := Xsw4.out.open4
    refine hK.out _ _ ?_ (fun hHeld => ?_)
    · (((try dsimp only); (repeat' apply And.intro) <;> (first | (simp only [World.cell?_drew, *]; done) | (simp (disch := (first | omega | (simp; omega))) only [cell_far, cell_old, World.cell?_drew, *]; done))))
    clear hK K
    try simp only [Act.put, List.setIfInBounds_toArray, List.set_cons_zero, List.set_cons_succ]
    refine takeL (i := 9) (oi := ?_) (v := ?_) ?_ (by kernel_rfl) (by kernel_rfl) (by kernel_rfl) (by kernel_rfl) ?_ (Or.inl ⟨?_, ?_⟩) (by assumption) ?_
    rotate_left 2
    · (simp only [List.getElem?_toArray, List.getElem?_cons_succ, List.getElem?_cons_zero]; rfl)
    · exact fun _ _ _ h => h
    · rfl
    · (intro w hSw; (try dsimp only at hSw); go_simp; (try with_reducible rfl))
    try simp only [Act.put, List.setIfInBounds_toArray, List.set_cons_zero, List.set_cons_succ]
    refine takeL (i := 10) (oi := ?_) (v := undef) ?_ (by kernel_rfl) (by kernel_rfl) (by kernel_rfl) (by kernel_rfl) ?_ ?_ (by assumption) ?_
    rotate_left
    · (simp only [List.getElem?_toArray, List.getElem?_cons_succ, List.getElem?_cons_zero]; rfl)
    · exact fun _ _ _ h => h
    · exact Or.inr ⟨by rfl, rfl⟩
    try simp only [Act.put, List.setIfInBounds_toArray, List.set_cons_zero, List.set_cons_succ]
    refine takeL (i := 11) (oi := ?_) (v := undef) ?_ (by kernel_rfl) (by kernel_rfl) (by kernel_rfl) (by kernel_rfl) ?_ ?_ (by assumption) ?_
    rotate_left
    · (simp only [List.getElem?_toArray, List.getElem?_cons_succ, List.getElem?_cons_zero]; rfl)
    · exact fun _ _ _ h => h
    · exact Or.inr ⟨by rfl, rfl⟩
    try simp only [Act.put, List.setIfInBounds_toArray, List.set_cons_zero, List.set_cons_succ]
    refine takeL (i := 12) (oi := ?_) (v := undef) ?_ (by kernel_rfl) (by kernel_rfl) (by kernel_rfl) (by kernel_rfl) ?_ ?_ (by assumption) ?_
    rotate_left
    · (simp only [List.getElem?_toArray, List.getElem?_cons_succ, List.getElem?_cons_zero]; rfl)
    · exact fun _ _ _ h => h
    · exact Or.inr ⟨by rfl, rfl⟩
    try simp only [Act.put, List.setIfInBounds_toArray, List.set_cons_zero, List.set_cons_succ]
    refine takeL (i := 13) (oi := ?_) (v := undef) ?_ (by kernel_rfl) (by kernel_rfl) (by kernel_rfl) (by kernel_rfl) ?_ ?_ (by assumption) ?_
    rotate_left
    · (simp only [List.getElem?_toArray, List.getElem?_cons_succ, List.getElem?_cons_zero]; rfl)
    · exact fun _ _ _ h => h
    · exact Or.inr ⟨by rfl, rfl⟩
    try simp only [Act.put, List.setIfInBounds_toArray, List.set_cons_zero, List.set_cons_succ]
    refine takeL (i := 14) (oi := ?_) (v := undef) ?_ (by kernel_rfl) (by kernel_rfl) (by kernel_rfl) (by kernel_rfl) ?_ ?_ (by assumption) ?_
    rotate_left
    · (simp only [List.getElem?_toArray, List.getElem?_cons_succ, List.getElem?_cons_zero]; rfl)
    · exact fun _ _ _ h => h
    · exact Or.inr ⟨by rfl, rfl⟩
    try simp only [Act.put, List.setIfInBounds_toArray, List.set_cons_zero, List.set_cons_succ]
    refine takeL (i := 15) (oi := ?_) (v := ?_) ?_ (by kernel_rfl) (by kernel_rfl) (by kernel_rfl) (by kernel_rfl) ?_ (Or.inl ⟨?_, ?_⟩) (by assumption) ?_
    rotate_left 2
    · (simp only [List.getElem?_toArray, List.getElem?_cons_succ, List.getElem?_cons_zero]; rfl)
    · exact fun _ _ _ h => h
    · rfl
    · (intro w hSw; (try dsimp only at hSw); go_simp; (try with_reducible rfl))
    try simp only [Act.put, List.setIfInBounds_toArray, List.set_cons_zero, List.set_cons_succ]
    refine takeL (i := 16) (oi := ?_) (v := ?_) ?_ (by kernel_rfl) (by kernel_rfl) (by kernel_rfl) (by kernel_rfl) ?_ (Or.inl ⟨?_, ?_⟩) (by assumption) ?_
    rotate_left 2
    · (simp only [List.getElem?_toArray, List.getElem?_cons_succ, List.getElem?_cons_zero]; rfl)
    · exact fun _ _ _ h => h
    · rfl
    · (intro w hSw; (try dsimp only at hSw); go_simp; (try with_reducible rfl))
    try simp only [Act.put, List.setIfInBounds_toArray, List.set_cons_zero, List.set_cons_succ]
    refine takeL (i := 17) (oi := ?_) (v := ?_) ?_ (by kernel_rfl) (by kernel_rfl) (by kernel_rfl) (by kernel_rfl) ?_ (Or.inl ⟨?_, ?_⟩) (by assumption) ?_
    rotate_left 2
    · (simp only [List.getElem?_toArray, List.getElem?_cons_succ, List.getElem?_cons_zero]; rfl)
    · exact fun _ _ _ h => h
    · rfl
    · (intro w hSw; (try dsimp only at hSw); go_simp; (try with_reducible rfl))
    try simp only [Act.put, List.setIfInBounds_toArray, List.set_cons_zero, List.set_cons_succ]
    refine doneL (by kernel_rfl) ?_ _
    go_wp2_with fail
    go_ret
    exact ⟨ret_bool (by simp [Pl.covers, Pl.R.ok, hr, hr2, eb]), by go_grown⟩
  have Hc := Lib.hid (coversSpec hr hr2 eb)
  have HE := fun (w : World) => eql_rect w (Pl.inter ⟨x, y, a, b⟩ ⟨x2, y2, a2, b2⟩).x (Pl.inter ⟨x, y, a, b⟩ ⟨x2, y2, a2, b2⟩).y (Pl.inter ⟨x, y, a, b⟩ ⟨x2, y2, a2, b2⟩).w (Pl.inter ⟨x, y, a, b⟩ ⟨x2, y2, a2, b2⟩).h x2 y2 a2 b2
  have HG := guard_rect
  go_enter Try.func67, Try.ntmps67
  go_wp2_with fail
  have bv1 : Below w.heap.size w ((w.alloc (.cells #[.int .i64 x, .int .i64 y, .int .i64 a, .int .i64 b] 42)).alloc (.cells #[.int .i64 x2, .int .i64 y2, .int .i64 a2, .int .i64 b2] 42)) := by go_grown
  have sv1 : w.heap.size + 2 ≤ ((w.alloc (.cells #[.int .i64 x, .int .i64 y, .int .i64 a, .int .i64 b] 42)).alloc (.cells #[.int .i64 x2, .int .i64 y2, .int .i64 a2, .int .i64 b2] 42)).heap.size := by simp
  have rv1 : ((w.alloc (.cells #[.int .i64 x, .int .i64 y, .int .i64 a, .int .i64 b] 42)).alloc (.cells #[.int .i64 x2, .int .i64 y2, .int .i64 a2, .int .i64 b2] 42)).heap.size ≤ w.heap.size + 2 := by simp
  have Zrv1 : Box ((w.alloc (.cells #[.int .i64 x, .int .i64 y, .int .i64 a, .int .i64 b] 42)).alloc (.cells #[.int .i64 x2, .int .i64 y2, .int .i64 a2, .int .i64 b2] 42)) (w.heap.size) [.int .i64 x, .int .i64 y, .int .i64 a, .int .i64 b] := Box.of4 (Below.refl _ _) _ (by first | (simp; done) | (simp; omega)) (by simp [go_sem]) (by simp [go_sem]) (by simp [go_sem]) (by simp [go_sem])
  have Zsv1 : Box ((w.alloc (.cells #[.int .i64 x, .int .i64 y, .int .i64 a, .int .i64 b] 42)).alloc (.cells #[.int .i64 x2, .int .i64 y2, .int .i64 a2, .int .i64 b2] 42)) (w.heap.size + 1) [.int .i64 x2, .int .i64 y2, .int .i64 a2, .int .i64 b2] := Box.of4 (Below.refl _ _) _ (by first | (simp; done) | (simp; omega)) (by simp [go_sem]) (by simp [go_sem]) (by simp [go_sem]) (by simp [go_sem])
  generalize ((w.alloc (.cells #[.int .i64 x, .int .i64 y, .int .i64 a, .int .i64 b] 42)).alloc (.cells #[.int .i64 x2, .int .i64 y2, .int .i64 a2, .int .i64 b2] 42)) = v1 at *
  have Bv1 : Below w.heap.size w v1 := Bw.trans (bv1.mono bsw)
  have tv1 := bv1.size
  have bsv1 := Bv1.size
  have Xrv1 := Lib.hid Zrv1
  clear Zrv1
  have Xsv1 := Lib.hid Zsv1
  clear Zsv1
  have ⟨qrv1_0, qrv1_1, qrv1_2, qrv1_3, qrv1_4⟩ := Xrv1.out.open4
  have ⟨qsv1_0, qsv1_1, qsv1_2, qsv1_3, qsv1_4⟩ := Xsv1.out.open4
  refine regionL (S := (fun w' => w'.cell? ⟨w.heap.size, 0, none⟩ = some (.int .i64 x) ∧ w'.cell? ⟨w.heap.size, 1, none⟩ = some (.int .i64 y) ∧ w'.cell? ⟨w.heap.size, 2, none⟩ = some (.int .i64 a) ∧ w'.cell? ⟨w.heap.size, 3, none⟩ = some (.int .i64 b) ∧ w'.cell? ⟨w.heap.size + 1, 0, none⟩ = some (.int .i64 x2) ∧ w'.cell? ⟨w.heap.size + 1, 1, none⟩ = some (.int .i64 y2) ∧ w'.cell? ⟨w.heap.size + 1, 2, none⟩ = some (.int .i64 a2) ∧ w'.cell? ⟨w.heap.size + 1, 3, none⟩ = some (.int .i64 b2))) (L := 18) (by kernel_rfl) ?_ (fun hHeld => ?_)
  · (((try dsimp only); (repeat' apply And.intro) <;> (first | (simp only [World.cell?_drew, *]; done) | (simp (disch := (first | omega | (simp; omega))) only [cell_far, cell_old, World.cell?_drew, *]; done))))
  refine takeL (i := 0) (oi := ?_) (v := ?_) ?_ (by kernel_rfl) (by kernel_rfl) (by kernel_rfl) (by kernel_rfl) ?_ (Or.inl ⟨?_, ?_⟩) (by assumption) ?_
  rotate_left 2
  · (simp only [List.getElem?_toArray, List.getElem?_cons_succ, List.getElem?_cons_zero]; rfl)
  · exact fun _ _ _ h => h
  · rfl
  · (intro w hSw; (try dsimp only at hSw); go_simp; (try with_reducible rfl))
  try simp only [Act.put, List.setIfInBounds_toArray, List.set_cons_zero, List.set_cons_succ]
  refine readyL (rs := [1]) (by kernel_rfl) (by simp) ?_
  refine AllReadyL.cons (o := ?_) ?_ (fun K hK => ?_) AllReadyL.none_
  rotate_left
  · (simp only [List.getElem?_toArray, List.getElem?_cons_succ, List.getElem?_cons_zero]; rfl)
  go_simp
  go_at_call 65
  ((with_reducible refine (specRectOk x y a b _).mono ?_))
  rw [hr]
  rintro e w2 ⟨rfl, hbw2⟩
  have bw2 : Below v1.heap.size v1 w2 := later (by go_grown) hbw2
  have Bw2 : Below w.heap.size w w2 := Bv1.trans (bw2.mono bsv1)
  have sw2 := hbw2.size
  (try simp at sw2)
  have tw2 := bw2.size
  have bsw2 := Bw2.size
  have Xrw2 := Lib.hid (Xrv1.out.step bw2)
  clear Xrv1 qrv1_0 qrv1_1 qrv1_2 qrv1_3 qrv1_4
  have Xsw2 := Lib.hid (Xsv1.out.step bw2)
  clear Xsv1 qsv1_0 qsv1_1 qsv1_2 qsv1_3 qsv1_4
  have ⟨qrw2_0, qrw2_1, qrw2_2, qrw2_3, qrw2_4⟩ := Xrw2.out.open4
  have ⟨qsw2_0, qsw2_1, qsw2_2, qsw2_3, qsw2_4⟩ := Xsw2.out.open4
  refine hK.out _ _ ?_ (fun hHeld => ?_)
  · (((try dsimp only); (repeat' apply And.intro) <;> (first | (simp only [World.cell?_drew, *]; done) | (simp (disch := (first | omega | (simp; omega))) only [cell_far, cell_old, World.cell?_drew, *]; done))))
  clear hK K
  try simp only [Act.put, List.setIfInBounds_toArray, List.set_cons_zero, List.set_cons_succ]
  refine takeL (i := 2) (oi := ?_) (v := ?_) ?_ (by kernel_rfl) (by kernel_rfl) (by kernel_rfl) (by kernel_rfl) ?_ (Or.inl ⟨?_, ?_⟩) (by assumption) ?_
  rotate_left 2
  · (simp only [List.getElem?_toArray, List.getElem?_cons_succ, List.getElem?_cons_zero]; rfl)
  · exact fun _ _ _ h => h
  · rfl
  · (intro w hSw; (try dsimp only at hSw); go_simp; (try with_reducible rfl))
  try simp only [Act.put, List.setIfInBounds_toArray, List.set_cons_zero, List.set_cons_succ]
  refine takeL (i := 3) (oi := ?_) (v := ?_) ?_ (by kernel_rfl) (by kernel_rfl) (by kernel_rfl) (by kernel_rfl) ?_ (Or.inl ⟨?_, ?_⟩) (by assumption) ?_
  rotate_left 2
  · (simp only [List.getElem?_toArray, List.getElem?_cons_succ, List.getElem?_cons_zero]; rfl)
  · exact fun _ _ _ h => h
  · rfl
  · (intro w hSw; (try dsimp only at hSw); go_simp; (try with_reducible rfl))
  try simp only [Act.put, List.setIfInBounds_toArray, List.set_cons_zero, List.set_cons_succ]
  refine readyL (rs := [4]) (by kernel_rfl) (by simp) ?_
  refine AllReadyL.cons (o := ?_) ?_ (fun K hK => ?_) AllReadyL.none_
  rotate_left
  · (simp only [List.getElem?_toArray, List.getElem?_cons_succ, List.getElem?_cons_zero]; rfl)
  go_simp
  go_at_call 65
  ((with_reducible refine (specRectOk x2 y2 a2 b2 _).mono ?_))
  rw [hr2]
  rintro e w3 ⟨rfl, hbw3⟩
  have bw3 : Below w2.heap.size w2 w3 := later (by go_grown) hbw3
  have Bw3 : Below w.heap.size w w3 := Bw2.trans (bw3.mono bsw2)
  have sw3 := hbw3.size
  (try simp at sw3)
  have tw3 := bw3.size
  have bsw3 := Bw3.size
  have Xrw3 := Lib.hid (Xrw2.out.step bw3)
  clear Xrw2 qrw2_0 qrw2_1 qrw2_2 qrw2_3 qrw2_4
  have Xsw3 := Lib.hid (Xsw2.out.step bw3)
  clear Xsw2 qsw2_0 qsw2_1 qsw2_2 qsw2_3 qsw2_4
  have ⟨qrw3_0, qrw3_1, qrw3_2, qrw3_3, qrw3_4⟩ := Xrw3.out.open4
  have ⟨qsw3_0, qsw3_1, qsw3_2, qsw3_3, qsw3_4⟩ := Xsw3.out.open4
  refine hK.out _ _ ?_ (fun hHeld => ?_)
  · (((try dsimp only); (repeat' apply And.intro) <;> (first | (simp only [World.cell?_drew, *]; done) | (simp (disch := (first | omega | (simp; omega))) only [cell_far, cell_old, World.cell?_drew, *]; done))))
  clear hK K
  try simp only [Act.put, List.setIfInBounds_toArray, List.set_cons_zero, List.set_cons_succ]
  refine takeL (i := 5) (oi := ?_) (v := ?_) ?_ (by kernel_rfl) (by kernel_rfl) (by kernel_rfl) (by kernel_rfl) ?_ (Or.inl ⟨?_, ?_⟩) (by assumption) ?_
  rotate_left 2
  · (simp only [List.getElem?_toArray, List.getElem?_cons_succ, List.getElem?_cons_zero]; rfl)
  · exact fun _ _ _ h => h
  · rfl
  · (intro w hSw; (try dsimp only at hSw); go_simp; (try with_reducible rfl))
  try simp only [Act.put, List.setIfInBounds_toArray, List.set_cons_zero, List.set_cons_succ]
  refine takeL (i := 6) (oi := ?_) (v := ?_) ?_ (by kernel_rfl) (by kernel_rfl) (by kernel_rfl) (by kernel_rfl) ?_ (Or.inl ⟨?_, ?_⟩) (by assumption) ?_
  rotate_left 2
  · (simp only [List.getElem?_toArray, List.getElem?_cons_succ, List.getElem?_cons_zero]; rfl)
  · exact fun _ _ _ h => h
  · rfl
  · (intro w hSw; (try dsimp only at hSw); go_simp; (try with_reducible rfl))
  try simp only [Act.put, List.setIfInBounds_toArray, List.set_cons_zero, List.set_cons_succ]
  refine takeL (i := 7) (oi := ?_) (v := ?_) ?_ (by kernel_rfl) (by kernel_rfl) (by kernel_rfl) (by kernel_rfl) ?_ (Or.inl ⟨?_, ?_⟩) (by assumption) ?_
  rotate_left 2
  · (simp only [List.getElem?_toArray, List.getElem?_cons_succ, List.getElem?_cons_zero]; rfl)
  · exact fun _ _ _ h => h
  · rfl
  · (intro w hSw; (try dsimp only at hSw); go_simp; (try with_reducible rfl))
  try simp only [Act.put, List.setIfInBounds_toArray, List.set_cons_zero, List.set_cons_succ]
  refine readyL (rs := [8]) (by kernel_rfl) (by simp) ?_
  refine AllReadyL.cons (o := ?_) ?_ (fun K hK => ?_) AllReadyL.none_
  rotate_left
  · (simp only [List.getElem?_toArray, List.getElem?_cons_succ, List.getElem?_cons_zero]; rfl)
  go_simp
  go_at_call 66
  ((with_reducible refine (l02Empty_any x2 y2 a2 b2 _).mono ?_))
  rw [eb]
  rintro e w4 ⟨rfl, hbw4⟩
  have bw4 : Below w3.heap.size w3 w4 := later (by go_grown) hbw4
  have Bw4 : Below w.heap.size w w4 := Bw3.trans (bw4.mono bsw3)
  have sw4 := hbw4.size
  (try simp at sw4)
  have tw4 := bw4.size
  have bsw4 := Bw4.size
  have Xrw4 := Lib.hid (Xrw3.out.step bw4)
  clear Xrw3 qrw3_0 qrw3_1 qrw3_2 qrw3_3 qrw3_4
  have Xsw4 := Lib.hid (Xsw3.out.step bw4)
  clear Xsw3 qsw3_0 qsw3_1 qsw3_2 qsw3_3 qsw3_4
  have ⟨qrw4_0, qrw4_1, qrw4_2, qrw4_3, qrw4_4⟩ := Xrw4.out.open4
  have ⟨qsw4_0, qsw4_1, qsw4_2, qsw4_3, qsw4_4⟩ := Xsw4.out.open4
  refine hK.out _ _ ?_ (fun hHeld => ?_)
  · (((try dsimp only); (repeat' apply And.intro) <;> (first | (simp only [World.cell?_drew, *]; done) | (simp (disch := (first | omega | (simp; omega))) only [cell_far, cell_old, World.cell?_drew, *]; done))))
  clear hK K
  try simp only [Act.put, List.setIfInBounds_toArray, List.set_cons_zero, List.set_cons_succ]
  refine takeL (i := 9) (oi := ?_) (v := ?_) ?_ (by kernel_rfl) (by kernel_rfl) (by kernel_rfl) (by kernel_rfl) ?_ (Or.inl ⟨?_, ?_⟩) (by assumption) ?_
  rotate_left 2
  · (simp only [List.getElem?_toArray, List.getElem?_cons_succ, List.getElem?_cons_zero]; rfl)
  · exact fun _ _ _ h => h
  · rfl
  · (intro w hSw; (try dsimp only at hSw); go_simp; (try with_reducible rfl))
  try simp only [Act.put, List.setIfInBounds_toArray, List.set_cons_zero, List.set_cons_succ]
  refine takeL (i := 10) (oi := ?_) (v := ?_) ?_ (by kernel_rfl) (by kernel_rfl) (by kernel_rfl) (by kernel_rfl) ?_ (Or.inl ⟨?_, ?_⟩) (by assumption) ?_
  rotate_left 2
  · (simp only [List.getElem?_toArray, List.getElem?_cons_succ, List.getElem?_cons_zero]; rfl)
  · exact fun _ _ _ h => h
  · rfl
  · (intro w hSw; (try dsimp only at hSw); go_simp; (try with_reducible rfl))
  try simp only [Act.put, List.setIfInBounds_toArray, List.set_cons_zero, List.set_cons_succ]
  refine takeL (i := 11) (oi := ?_) (v := ?_) ?_ (by kernel_rfl) (by kernel_rfl) (by kernel_rfl) (by kernel_rfl) ?_ (Or.inl ⟨?_, ?_⟩) (by assumption) ?_
  rotate_left 2
  · (simp only [List.getElem?_toArray, List.getElem?_cons_succ, List.getElem?_cons_zero]; rfl)
  · exact fun _ _ _ h => h
  · rfl
  · (intro w hSw; (try dsimp only at hSw); go_simp; (try with_reducible rfl))
  try simp only [Act.put, List.setIfInBounds_toArray, List.set_cons_zero, List.set_cons_succ]
  refine takeL (i := 13) (oi := ?_) (v := ?_) ?_ (by kernel_rfl) (by kernel_rfl) (by kernel_rfl) (by kernel_rfl) ?_ (Or.inl ⟨?_, ?_⟩) (by assumption) ?_
  rotate_left 2
  · (simp only [List.getElem?_toArray, List.getElem?_cons_succ, List.getElem?_cons_zero]; rfl)
  · exact fun _ _ _ h => h
  · rfl
  · (intro w hSw; (try dsimp only at hSw); go_simp; (try with_reducible rfl))
  try simp only [Act.put, List.setIfInBounds_toArray, List.set_cons_zero, List.set_cons_succ]
  refine readyL (rs := [12]) (by kernel_rfl) (by simp) ?_
  refine AllReadyL.cons (o := ?_) ?_ (fun K hK => ?_) AllReadyL.none_
  rotate_left
  · (simp only [List.getElem?_toArray, List.getElem?_cons_succ, List.getElem?_cons_zero]; rfl)
  go_simp
  go_at_call 79
  ((with_reducible refine (specIntersect x y a b x2 y2 a2 b2 _).mono ?_))
  rintro e w5 ⟨rfl, hbw5⟩
  have bw5 : Below w4.heap.size w4 w5 := later (by go_grown) hbw5
  have Bw5 : Below w.heap.size w w5 := Bw4.trans (bw5.mono bsw4)
  have sw5 := hbw5.size
  (try simp at sw5)
  have tw5 := bw5.size
  have bsw5 := Bw5.size
  have Xrw5 := Lib.hid (Xrw4.out.step bw5)
  clear Xrw4 qrw4_0 qrw4_1 qrw4_2 qrw4_3 qrw4_4
  have Xsw5 := Lib.hid (Xsw4.out.step bw5)
  clear Xsw4 qsw4_0 qsw4_1 qsw4_2 qsw4_3 qsw4_4
  have ⟨qrw5_0, qrw5_1, qrw5_2, qrw5_3, qrw5_4⟩ := Xrw5.out.open4
  have ⟨qsw5_0, qsw5_1, qsw5_2, qsw5_3, qsw5_4⟩ := Xsw5.out.open4
  refine hK.out _ _ ?_ (fun hHeld => ?_)
  · (((try dsimp only); (repeat' apply And.intro) <;> (first | (simp only [World.cell?_drew, *]; done) | (simp (disch := (first | omega | (simp; omega))) only [cell_far, cell_old, World.cell?_drew, *]; done))))
  clear hK K
  try simp only [Act.put, List.setIfInBounds_toArray, List.set_cons_zero, List.set_cons_succ]
  refine takeL (i := 14) (oi := ?_) (v := ?_) ?_ (by kernel_rfl) (by kernel_rfl) (by kernel_rfl) (by kernel_rfl) ?_ (Or.inl ⟨?_, ?_⟩) (by assumption) ?_
  rotate_left 2
  · (simp only [List.getElem?_toArray, List.getElem?_cons_succ, List.getElem?_cons_zero]; rfl)
  · exact fun _ _ _ h => h
  · rfl
  · (intro w hSw; (try dsimp only at hSw); go_simp; (try with_reducible rfl))
  try simp only [Act.put, List.setIfInBounds_toArray, List.set_cons_zero, List.set_cons_succ]
  refine takeL (i := 15) (oi := ?_) (v := ?_) ?_ (by kernel_rfl) (by kernel_rfl) (by kernel_rfl) (by kernel_rfl) ?_ (Or.inl ⟨?_, ?_⟩) (by assumption) ?_
  rotate_left 2
  · (simp only [List.getElem?_toArray, List.getElem?_cons_succ, List.getElem?_cons_zero]; rfl)
  · exact fun _ _ _ h => h
  · rfl
  · (intro w hSw; (try dsimp only at hSw); go_simp; (try with_reducible rfl))
  try simp only [Act.put, List.setIfInBounds_toArray, List.set_cons_zero, List.set_cons_succ]
  refine takeL (i := 16) (oi := ?_) (v := ?_) ?_ (by kernel_rfl) (by kernel_rfl) (by kernel_rfl) (by kernel_rfl) ?_ (Or.inl ⟨?_, ?_⟩) (by assumption) ?_
  rotate_left 2
  · (simp only [List.getElem?_toArray, List.getElem?_cons_succ, List.getElem?_cons_zero]; rfl)
  · exact fun _ _ _ h => h
  · rfl
  · (intro w hSw; (try dsimp only at hSw); go_simp; (try with_reducible rfl))
  try simp only [Act.put, List.setIfInBounds_toArray, List.set_cons_zero, List.set_cons_succ]
  refine takeL (i := 17) (oi := ?_) (v := ?_) ?_ (by kernel_rfl) (by kernel_rfl) (by kernel_rfl) (by kernel_rfl) ?_ (Or.inl ⟨?_, ?_⟩) (by assumption) ?_
  rotate_left 2
  · (simp only [List.getElem?_toArray, List.getElem?_cons_succ, List.getElem?_cons_zero]; rfl)
  · exact fun _ _ _ h => h
  · rfl
  · (intro w hSw; (try dsimp only at hSw); go_simp; (try with_reducible rfl))
  try simp only [Act.put, List.setIfInBounds_toArray, List.set_cons_zero, List.set_cons_succ]
  refine doneL (by kernel_rfl) ?_ _
  go_wp2_with fail
  go_ret
  exact ⟨ret_bool (by
    rw [Bool.eq_iff_iff, ← Hc.out]
    generalize Pl.inter ⟨x, y, a, b⟩ ⟨x2, y2, a2, b2⟩ = r
    cases r
    simp), by go_grown⟩
end Go.Proofs.Ytbgemonpkncldaa
