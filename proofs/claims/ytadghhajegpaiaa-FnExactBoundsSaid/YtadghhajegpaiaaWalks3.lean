/- The laws' walks over two rectangles: each Go law returns true. -/
import Derived.Test.YtadghhajegpaiaaRect4
import Derived.Test.YtadghhajegpaiaaOwn
import Derived.Deep.RegionHeld3
import Derived.Deep.DeepCutAuto
namespace Go.Proofs.Ytadghhajegpaiaa
open Go.RowKit
set_option linter.unusedVariables false

/-- A variable's block: a struct of four integers. -/
def Box4 (wx : World) (b : Nat) (x y a h : Int) : Prop := wx.cell? ⟨b, 0, none⟩ = some (.int .i64 x) ∧ wx.cell? ⟨b, 1, none⟩ = some (.int .i64 y) ∧ wx.cell? ⟨b, 2, none⟩ = some (.int .i64 a) ∧ wx.cell? ⟨b, 3, none⟩ = some (.int .i64 h)
theorem Box4.below {wx w' : World} {b B : Nat} {x y a h : Int} (k : Box4 wx b x y a h) (hb : Below B wx w') (hB : b < B) : Box4 w' b x y a h :=
  ⟨(hb.cell (p := ⟨b, 0, none⟩) hB).trans k.1, (hb.cell (p := ⟨b, 1, none⟩) hB).trans k.2.1, (hb.cell (p := ⟨b, 2, none⟩) hB).trans k.2.2.1, (hb.cell (p := ⟨b, 3, none⟩) hB).trans k.2.2.2⟩

set_option maxHeartbeats 4000000 in
theorem walkFnExactIntersect (rx0 ry0 rw0 rh0 rx1 ry1 rw1 rh1 : Int) (w : World) (wf0 : (Lit.int .i64 rx0).wf = true) (wf1 : (Lit.int .i64 ry0).wf = true) (wf2 : (Lit.int .i64 rw0).wf = true) (wf3 : (Lit.int .i64 rh0).wf = true) (wf4 : (Lit.int .i64 rx1).wf = true) (wf5 : (Lit.int .i64 ry1).wf = true) (wf6 : (Lit.int .i64 rw1).wf = true) (wf7 : (Lit.int .i64 rh1).wf = true) : Calls Try.prog 7 #[.agg #[.int .i64 rx0, .int .i64 ry0, .int .i64 rw0, .int .i64 rh0], .agg #[.int .i64 rx1, .int .i64 ry1, .int .i64 rw1, .int .i64 rh1]] w fun e w' => e = .returned (.bool true) ∧ Below w.heap.size w w' := by
  clear wf0 wf1 wf2 wf3 wf4 wf5 wf6 wf7
  go_enter Try.func7, Try.ntmps7
  go_upto_region 1 with fail
  have hz : ((w.alloc (.cells #[.int .i64 rx0, .int .i64 ry0, .int .i64 rw0, .int .i64 rh0] 25)).alloc (.cells #[.int .i64 rx1, .int .i64 ry1, .int .i64 rw1, .int .i64 rh1] 25)).heap.size = w.heap.size + 2 := by simp
  have hA : Box4 ((w.alloc (.cells #[.int .i64 rx0, .int .i64 ry0, .int .i64 rw0, .int .i64 rh0] 25)).alloc (.cells #[.int .i64 rx1, .int .i64 ry1, .int .i64 rw1, .int .i64 rh1] 25)) w.heap.size rx0 ry0 rw0 rh0 := by simp [Box4, go_sem]
  have hB : Box4 ((w.alloc (.cells #[.int .i64 rx0, .int .i64 ry0, .int .i64 rw0, .int .i64 rh0] 25)).alloc (.cells #[.int .i64 rx1, .int .i64 ry1, .int .i64 rw1, .int .i64 rh1] 25)) (w.heap.size + 1) rx1 ry1 rw1 rh1 := by simp [Box4, go_sem]
  have BW : Below w.heap.size w ((w.alloc (.cells #[.int .i64 rx0, .int .i64 ry0, .int .i64 rw0, .int .i64 rh0] 25)).alloc (.cells #[.int .i64 rx1, .int .i64 ry1, .int .i64 rw1, .int .i64 rh1] 25)) := by go_grown
  generalize ((w.alloc (.cells #[.int .i64 rx0, .int .i64 ry0, .int .i64 rw0, .int .i64 rh0] 25)).alloc (.cells #[.int .i64 rx1, .int .i64 ry1, .int .i64 rw1, .int .i64 rh1] 25)) = W at *
  have HA := Lib.hid hA
  have HB := Lib.hid hB
  obtain ⟨cA0, cA1, cA2, cA3⟩ := hA
  obtain ⟨cB0, cB1, cB2, cB3⟩ := hB
  have lt0 : w.heap.size < W.heap.size := by omega
  have lt1 : w.heap.size + 1 < W.heap.size := by omega
  clear hz
  go_cut [5] (fun s5 wx => ∃ b : Nat, s5 = .pointer (some ⟨b, 0, none⟩) ∧ W.heap.size ≤ b ∧ b < wx.heap.size ∧ Box4 wx b (Pl.inter ⟨rx0, ry0, rw0, rh0⟩ ⟨rx1, ry1, rw1, rh1⟩).x (Pl.inter ⟨rx0, ry0, rw0, rh0⟩ ⟨rx1, ry1, rw1, rh1⟩).y (Pl.inter ⟨rx0, ry0, rw0, rh0⟩ ⟨rx1, ry1, rw1, rh1⟩).w (Pl.inter ⟨rx0, ry0, rw0, rh0⟩ ⟨rx1, ry1, rw1, rh1⟩).h ∧ Below W.heap.size W wx)
  case first =>
    go_region_held3 (fun w' => w'.cell? ⟨w.heap.size, 0, none⟩ = some (.int .i64 rx0) ∧ w'.cell? ⟨w.heap.size, 1, none⟩ = some (.int .i64 ry0) ∧ w'.cell? ⟨w.heap.size, 2, none⟩ = some (.int .i64 rw0) ∧ w'.cell? ⟨w.heap.size, 3, none⟩ = some (.int .i64 rh0) ∧ w'.cell? ⟨w.heap.size + 1, 0, none⟩ = some (.int .i64 rx1) ∧ w'.cell? ⟨w.heap.size + 1, 1, none⟩ = some (.int .i64 ry1) ∧ w'.cell? ⟨w.heap.size + 1, 2, none⟩ = some (.int .i64 rw1) ∧ w'.cell? ⟨w.heap.size + 1, 3, none⟩ = some (.int .i64 rh1)) (((try dsimp only); (repeat' apply And.intro) <;> (simp (disch := (first | omega | (simp; omega))) only [cell_far, cell_old, World.cell?_drew, *]; done)))
      (first
        | (go_at_call 18; ((with_reducible refine (toRect_any rx0 ry0 rw0 rh0 _).mono ?_)); rintro e w1 ⟨rfl, hb1⟩; have B1 : Below W.heap.size W w1 := later (by go_grown) hb1; have s1 := hb1.size; (try simp at s1); (try (have ⟨k1_0, f1_0, y1_0⟩ := keep3 hb1 (w.heap.size) (by first | omega | (simp; done) | (simp; omega)))); (try (have ⟨k1_1, f1_1, y1_1⟩ := keep3 hb1 (w.heap.size + 1) (by first | omega | (simp; done) | (simp; omega)))); (try (have ⟨k1_2, f1_2, y1_2⟩ := keep3 hb1 (W.heap.size) (by first | omega | (simp; done) | (simp; omega)))))
        | (go_at_call 18; ((with_reducible refine (toRect_any rx1 ry1 rw1 rh1 _).mono ?_)); rintro e w2 ⟨rfl, hb2⟩; have B2 : Below W.heap.size W w2 := later (by go_grown) hb2; have s2 := hb2.size; (try simp at s2); (try (have ⟨k2_0, f2_0, y2_0⟩ := keep3 hb2 (w.heap.size) (by first | omega | (simp; done) | (simp; omega)))); (try (have ⟨k2_1, f2_1, y2_1⟩ := keep3 hb2 (w.heap.size + 1) (by first | omega | (simp; done) | (simp; omega)))); (try (have ⟨k2_2, f2_2, y2_2⟩ := keep3 hb2 (W.heap.size) (by first | omega | (simp; done) | (simp; omega)))); (try (have ⟨k2_3, f2_3, y2_3⟩ := keep3 hb2 (w1.heap.size) (by first | omega | (simp; done) | (simp; omega)))))
        | (go_at_call 25; ((with_reducible refine (specIntersect _ _ _ _ _ _ _ _ _).mono ?_)); rintro e w3 ⟨rfl, hb3⟩; have B3 : Below W.heap.size W w3 := later (by go_grown) hb3; have s3 := hb3.size; (try simp at s3); (try (have ⟨k3_0, f3_0, y3_0⟩ := keep3 hb3 (w.heap.size) (by first | omega | (simp; done) | (simp; omega)))); (try (have ⟨k3_1, f3_1, y3_1⟩ := keep3 hb3 (w.heap.size + 1) (by first | omega | (simp; done) | (simp; omega)))); (try (have ⟨k3_2, f3_2, y3_2⟩ := keep3 hb3 (W.heap.size) (by first | omega | (simp; done) | (simp; omega)))); (try (have ⟨k3_3, f3_3, y3_3⟩ := keep3 hb3 (w1.heap.size) (by first | omega | (simp; done) | (simp; omega)))); (try (have ⟨k3_4, f3_4, y3_4⟩ := keep3 hb3 (w2.heap.size) (by first | omega | (simp; done) | (simp; omega))))))
    all_goals
      go_wp2_with fail
      go_meet
      case rel => exact ⟨_, rfl, by omega, by (try simp); (try omega), by simp [Box4, go_sem, *], by go_grown⟩
  case rest =>
    obtain ⟨b0, rfl, hb0, hs0, hx0, BX⟩ := hcut
    clear cA0 cA1 cA2 cA3 cB0 cB1 cB2 cB3
    have ⟨cA0, cA1, cA2, cA3⟩ := HA.out.below BX lt0
    have ⟨cB0, cB1, cB2, cB3⟩ := HB.out.below BX lt1
    have BW2 : Below w.heap.size w wc := BW.trans (BX.mono BW.size)
    have lt2 : w.heap.size < wc.heap.size := by have := BX.size; omega
    have lt3 : w.heap.size + 1 < wc.heap.size := by have := BX.size; omega
    have HX := Lib.hid hx0
    have lb0 : w.heap.size < b0 := by omega
    have lb1 : w.heap.size + 1 < b0 := by omega
    clear BW BX HA HB hx0 lt0 lt1
    clear hb0
    obtain ⟨V, rfl⟩ : ∃ V, V = W := ⟨_, rfl⟩
    clear V
    generalize wc = W at *
    go_upto_region 2 with fail
    go_cut [6] (fun s6 wx => ∃ b : Nat, s6 = .pointer (some ⟨b, 0, none⟩) ∧ W.heap.size ≤ b ∧ b < wx.heap.size ∧ Box4 wx b (Pl.inter ⟨rx0, ry0, rw0, rh0⟩ ⟨rx1, ry1, rw1, rh1⟩).x (Pl.inter ⟨rx0, ry0, rw0, rh0⟩ ⟨rx1, ry1, rw1, rh1⟩).y (Pl.inter ⟨rx0, ry0, rw0, rh0⟩ ⟨rx1, ry1, rw1, rh1⟩).w (Pl.inter ⟨rx0, ry0, rw0, rh0⟩ ⟨rx1, ry1, rw1, rh1⟩).h ∧ Below W.heap.size W wx)
    case first =>
      go_region_held3 (fun w' => w'.cell? ⟨w.heap.size, 0, none⟩ = some (.int .i64 rx0) ∧ w'.cell? ⟨w.heap.size, 1, none⟩ = some (.int .i64 ry0) ∧ w'.cell? ⟨w.heap.size, 2, none⟩ = some (.int .i64 rw0) ∧ w'.cell? ⟨w.heap.size, 3, none⟩ = some (.int .i64 rh0) ∧ w'.cell? ⟨w.heap.size + 1, 0, none⟩ = some (.int .i64 rx1) ∧ w'.cell? ⟨w.heap.size + 1, 1, none⟩ = some (.int .i64 ry1) ∧ w'.cell? ⟨w.heap.size + 1, 2, none⟩ = some (.int .i64 rw1) ∧ w'.cell? ⟨w.heap.size + 1, 3, none⟩ = some (.int .i64 rh1)) (((try dsimp only); (repeat' apply And.intro) <;> (simp (disch := (first | omega | (simp; omega))) only [cell_far, cell_old, World.cell?_drew, *]; done)))
        (first
          | (go_at_call 18; ((with_reducible refine (toRect_any rx0 ry0 rw0 rh0 _).mono ?_)); rintro e w1 ⟨rfl, hb1⟩; have B1 : Below W.heap.size W w1 := later (by go_grown) hb1; have s1 := hb1.size; (try simp at s1); (try (have ⟨k1_0, f1_0, y1_0⟩ := keep3 hb1 (w.heap.size) (by first | omega | (simp; done) | (simp; omega)))); (try (have ⟨k1_1, f1_1, y1_1⟩ := keep3 hb1 (w.heap.size + 1) (by first | omega | (simp; done) | (simp; omega)))); (try (have ⟨k1_2, f1_2, y1_2⟩ := keep3 hb1 (W.heap.size) (by first | omega | (simp; done) | (simp; omega)))))
          | (go_at_call 18; ((with_reducible refine (toRect_any rx1 ry1 rw1 rh1 _).mono ?_)); rintro e w2 ⟨rfl, hb2⟩; have B2 : Below W.heap.size W w2 := later (by go_grown) hb2; have s2 := hb2.size; (try simp at s2); (try (have ⟨k2_0, f2_0, y2_0⟩ := keep3 hb2 (w.heap.size) (by first | omega | (simp; done) | (simp; omega)))); (try (have ⟨k2_1, f2_1, y2_1⟩ := keep3 hb2 (w.heap.size + 1) (by first | omega | (simp; done) | (simp; omega)))); (try (have ⟨k2_2, f2_2, y2_2⟩ := keep3 hb2 (W.heap.size) (by first | omega | (simp; done) | (simp; omega)))); (try (have ⟨k2_3, f2_3, y2_3⟩ := keep3 hb2 (w1.heap.size) (by first | omega | (simp; done) | (simp; omega)))))
          | (go_at_call 26; ((with_reducible refine (implIntersect _ _ _ _ _ _ _ _ _).mono ?_)); rintro e w3 ⟨rfl, hb3⟩; have B3 : Below W.heap.size W w3 := later (by go_grown) hb3; have s3 := hb3.size; (try simp at s3); (try (have ⟨k3_0, f3_0, y3_0⟩ := keep3 hb3 (w.heap.size) (by first | omega | (simp; done) | (simp; omega)))); (try (have ⟨k3_1, f3_1, y3_1⟩ := keep3 hb3 (w.heap.size + 1) (by first | omega | (simp; done) | (simp; omega)))); (try (have ⟨k3_2, f3_2, y3_2⟩ := keep3 hb3 (W.heap.size) (by first | omega | (simp; done) | (simp; omega)))); (try (have ⟨k3_3, f3_3, y3_3⟩ := keep3 hb3 (w1.heap.size) (by first | omega | (simp; done) | (simp; omega)))); (try (have ⟨k3_4, f3_4, y3_4⟩ := keep3 hb3 (w2.heap.size) (by first | omega | (simp; done) | (simp; omega))))))
      all_goals
        go_wp2_with fail
        go_meet
        case rel => exact ⟨_, rfl, by omega, by (try simp); (try omega), by simp [Box4, go_sem, *], by go_grown⟩
    case rest =>
      obtain ⟨b1, rfl, hb1, hs1, hx1, BX⟩ := hcut
      have ⟨x0, x1, x2, x3⟩ := HX.out.below BX hs0
      obtain ⟨y0, y1, y2, y3⟩ := hx1
      have BW3 : Below w.heap.size w wc := BW2.trans (BX.mono BW2.size)
      go_wp2_with fail
      refine (eqRect_same _ _ _ _ _).mono ?_
      rintro e w9 ⟨rfl, hb9⟩
      have BW4 : Below w.heap.size w w9 := BW3.trans (hb9.mono BW3.size)
      go_wp2
      go_ret
      exact ⟨rfl, BW4⟩
set_option maxHeartbeats 4000000 in
theorem walkFnExactBounds (rx0 ry0 rw0 rh0 rx1 ry1 rw1 rh1 : Int) (w : World) (wf0 : (Lit.int .i64 rx0).wf = true) (wf1 : (Lit.int .i64 ry0).wf = true) (wf2 : (Lit.int .i64 rw0).wf = true) (wf3 : (Lit.int .i64 rh0).wf = true) (wf4 : (Lit.int .i64 rx1).wf = true) (wf5 : (Lit.int .i64 ry1).wf = true) (wf6 : (Lit.int .i64 rw1).wf = true) (wf7 : (Lit.int .i64 rh1).wf = true) : Calls Try.prog 8 #[.agg #[.int .i64 rx0, .int .i64 ry0, .int .i64 rw0, .int .i64 rh0], .agg #[.int .i64 rx1, .int .i64 ry1, .int .i64 rw1, .int .i64 rh1]] w fun e w' => e = .returned (.bool true) ∧ Below w.heap.size w w' := by
  clear wf0 wf1 wf2 wf3 wf4 wf5 wf6 wf7
  go_enter Try.func8, Try.ntmps8
  go_upto_region 1 with fail
  have hz : ((w.alloc (.cells #[.int .i64 rx0, .int .i64 ry0, .int .i64 rw0, .int .i64 rh0] 25)).alloc (.cells #[.int .i64 rx1, .int .i64 ry1, .int .i64 rw1, .int .i64 rh1] 25)).heap.size = w.heap.size + 2 := by simp
  have hA : Box4 ((w.alloc (.cells #[.int .i64 rx0, .int .i64 ry0, .int .i64 rw0, .int .i64 rh0] 25)).alloc (.cells #[.int .i64 rx1, .int .i64 ry1, .int .i64 rw1, .int .i64 rh1] 25)) w.heap.size rx0 ry0 rw0 rh0 := by simp [Box4, go_sem]
  have hB : Box4 ((w.alloc (.cells #[.int .i64 rx0, .int .i64 ry0, .int .i64 rw0, .int .i64 rh0] 25)).alloc (.cells #[.int .i64 rx1, .int .i64 ry1, .int .i64 rw1, .int .i64 rh1] 25)) (w.heap.size + 1) rx1 ry1 rw1 rh1 := by simp [Box4, go_sem]
  have BW : Below w.heap.size w ((w.alloc (.cells #[.int .i64 rx0, .int .i64 ry0, .int .i64 rw0, .int .i64 rh0] 25)).alloc (.cells #[.int .i64 rx1, .int .i64 ry1, .int .i64 rw1, .int .i64 rh1] 25)) := by go_grown
  generalize ((w.alloc (.cells #[.int .i64 rx0, .int .i64 ry0, .int .i64 rw0, .int .i64 rh0] 25)).alloc (.cells #[.int .i64 rx1, .int .i64 ry1, .int .i64 rw1, .int .i64 rh1] 25)) = W at *
  have HA := Lib.hid hA
  have HB := Lib.hid hB
  obtain ⟨cA0, cA1, cA2, cA3⟩ := hA
  obtain ⟨cB0, cB1, cB2, cB3⟩ := hB
  have lt0 : w.heap.size < W.heap.size := by omega
  have lt1 : w.heap.size + 1 < W.heap.size := by omega
  clear hz
  go_cut [5] (fun s5 wx => ∃ b : Nat, s5 = .pointer (some ⟨b, 0, none⟩) ∧ W.heap.size ≤ b ∧ b < wx.heap.size ∧ Box4 wx b (Pl.bounds ⟨rx0, ry0, rw0, rh0⟩ ⟨rx1, ry1, rw1, rh1⟩).x (Pl.bounds ⟨rx0, ry0, rw0, rh0⟩ ⟨rx1, ry1, rw1, rh1⟩).y (Pl.bounds ⟨rx0, ry0, rw0, rh0⟩ ⟨rx1, ry1, rw1, rh1⟩).w (Pl.bounds ⟨rx0, ry0, rw0, rh0⟩ ⟨rx1, ry1, rw1, rh1⟩).h ∧ Below W.heap.size W wx)
  case first =>
    go_region_held3 (fun w' => w'.cell? ⟨w.heap.size, 0, none⟩ = some (.int .i64 rx0) ∧ w'.cell? ⟨w.heap.size, 1, none⟩ = some (.int .i64 ry0) ∧ w'.cell? ⟨w.heap.size, 2, none⟩ = some (.int .i64 rw0) ∧ w'.cell? ⟨w.heap.size, 3, none⟩ = some (.int .i64 rh0) ∧ w'.cell? ⟨w.heap.size + 1, 0, none⟩ = some (.int .i64 rx1) ∧ w'.cell? ⟨w.heap.size + 1, 1, none⟩ = some (.int .i64 ry1) ∧ w'.cell? ⟨w.heap.size + 1, 2, none⟩ = some (.int .i64 rw1) ∧ w'.cell? ⟨w.heap.size + 1, 3, none⟩ = some (.int .i64 rh1)) (((try dsimp only); (repeat' apply And.intro) <;> (simp (disch := (first | omega | (simp; omega))) only [cell_far, cell_old, World.cell?_drew, *]; done)))
      (first
        | (go_at_call 18; ((with_reducible refine (toRect_any rx0 ry0 rw0 rh0 _).mono ?_)); rintro e w1 ⟨rfl, hb1⟩; have B1 : Below W.heap.size W w1 := later (by go_grown) hb1; have s1 := hb1.size; (try simp at s1); (try (have ⟨k1_0, f1_0, y1_0⟩ := keep3 hb1 (w.heap.size) (by first | omega | (simp; done) | (simp; omega)))); (try (have ⟨k1_1, f1_1, y1_1⟩ := keep3 hb1 (w.heap.size + 1) (by first | omega | (simp; done) | (simp; omega)))); (try (have ⟨k1_2, f1_2, y1_2⟩ := keep3 hb1 (W.heap.size) (by first | omega | (simp; done) | (simp; omega)))))
        | (go_at_call 18; ((with_reducible refine (toRect_any rx1 ry1 rw1 rh1 _).mono ?_)); rintro e w2 ⟨rfl, hb2⟩; have B2 : Below W.heap.size W w2 := later (by go_grown) hb2; have s2 := hb2.size; (try simp at s2); (try (have ⟨k2_0, f2_0, y2_0⟩ := keep3 hb2 (w.heap.size) (by first | omega | (simp; done) | (simp; omega)))); (try (have ⟨k2_1, f2_1, y2_1⟩ := keep3 hb2 (w.heap.size + 1) (by first | omega | (simp; done) | (simp; omega)))); (try (have ⟨k2_2, f2_2, y2_2⟩ := keep3 hb2 (W.heap.size) (by first | omega | (simp; done) | (simp; omega)))); (try (have ⟨k2_3, f2_3, y2_3⟩ := keep3 hb2 (w1.heap.size) (by first | omega | (simp; done) | (simp; omega)))))
        | (go_at_call 27; ((with_reducible refine (specBounds _ _ _ _ _ _ _ _ _).mono ?_)); rintro e w3 ⟨rfl, hb3⟩; have B3 : Below W.heap.size W w3 := later (by go_grown) hb3; have s3 := hb3.size; (try simp at s3); (try (have ⟨k3_0, f3_0, y3_0⟩ := keep3 hb3 (w.heap.size) (by first | omega | (simp; done) | (simp; omega)))); (try (have ⟨k3_1, f3_1, y3_1⟩ := keep3 hb3 (w.heap.size + 1) (by first | omega | (simp; done) | (simp; omega)))); (try (have ⟨k3_2, f3_2, y3_2⟩ := keep3 hb3 (W.heap.size) (by first | omega | (simp; done) | (simp; omega)))); (try (have ⟨k3_3, f3_3, y3_3⟩ := keep3 hb3 (w1.heap.size) (by first | omega | (simp; done) | (simp; omega)))); (try (have ⟨k3_4, f3_4, y3_4⟩ := keep3 hb3 (w2.heap.size) (by first | omega | (simp; done) | (simp; omega))))))
    all_goals
      go_wp2_with fail
      go_meet
      case rel => exact ⟨_, rfl, by omega, by (try simp); (try omega), by simp [Box4, go_sem, *], by go_grown⟩
  case rest =>
    obtain ⟨b0, rfl, hb0, hs0, hx0, BX⟩ := hcut
    clear cA0 cA1 cA2 cA3 cB0 cB1 cB2 cB3
    have ⟨cA0, cA1, cA2, cA3⟩ := HA.out.below BX lt0
    have ⟨cB0, cB1, cB2, cB3⟩ := HB.out.below BX lt1
    have BW2 : Below w.heap.size w wc := BW.trans (BX.mono BW.size)
    have lt2 : w.heap.size < wc.heap.size := by have := BX.size; omega
    have lt3 : w.heap.size + 1 < wc.heap.size := by have := BX.size; omega
    have HX := Lib.hid hx0
    have lb0 : w.heap.size < b0 := by omega
    have lb1 : w.heap.size + 1 < b0 := by omega
    clear BW BX HA HB hx0 lt0 lt1
    clear hb0
    obtain ⟨V, rfl⟩ : ∃ V, V = W := ⟨_, rfl⟩
    clear V
    generalize wc = W at *
    go_upto_region 2 with fail
    go_cut [6] (fun s6 wx => ∃ b : Nat, s6 = .pointer (some ⟨b, 0, none⟩) ∧ W.heap.size ≤ b ∧ b < wx.heap.size ∧ Box4 wx b (Pl.bounds ⟨rx0, ry0, rw0, rh0⟩ ⟨rx1, ry1, rw1, rh1⟩).x (Pl.bounds ⟨rx0, ry0, rw0, rh0⟩ ⟨rx1, ry1, rw1, rh1⟩).y (Pl.bounds ⟨rx0, ry0, rw0, rh0⟩ ⟨rx1, ry1, rw1, rh1⟩).w (Pl.bounds ⟨rx0, ry0, rw0, rh0⟩ ⟨rx1, ry1, rw1, rh1⟩).h ∧ Below W.heap.size W wx)
    case first =>
      go_region_held3 (fun w' => w'.cell? ⟨w.heap.size, 0, none⟩ = some (.int .i64 rx0) ∧ w'.cell? ⟨w.heap.size, 1, none⟩ = some (.int .i64 ry0) ∧ w'.cell? ⟨w.heap.size, 2, none⟩ = some (.int .i64 rw0) ∧ w'.cell? ⟨w.heap.size, 3, none⟩ = some (.int .i64 rh0) ∧ w'.cell? ⟨w.heap.size + 1, 0, none⟩ = some (.int .i64 rx1) ∧ w'.cell? ⟨w.heap.size + 1, 1, none⟩ = some (.int .i64 ry1) ∧ w'.cell? ⟨w.heap.size + 1, 2, none⟩ = some (.int .i64 rw1) ∧ w'.cell? ⟨w.heap.size + 1, 3, none⟩ = some (.int .i64 rh1)) (((try dsimp only); (repeat' apply And.intro) <;> (simp (disch := (first | omega | (simp; omega))) only [cell_far, cell_old, World.cell?_drew, *]; done)))
        (first
          | (go_at_call 18; ((with_reducible refine (toRect_any rx0 ry0 rw0 rh0 _).mono ?_)); rintro e w1 ⟨rfl, hb1⟩; have B1 : Below W.heap.size W w1 := later (by go_grown) hb1; have s1 := hb1.size; (try simp at s1); (try (have ⟨k1_0, f1_0, y1_0⟩ := keep3 hb1 (w.heap.size) (by first | omega | (simp; done) | (simp; omega)))); (try (have ⟨k1_1, f1_1, y1_1⟩ := keep3 hb1 (w.heap.size + 1) (by first | omega | (simp; done) | (simp; omega)))); (try (have ⟨k1_2, f1_2, y1_2⟩ := keep3 hb1 (W.heap.size) (by first | omega | (simp; done) | (simp; omega)))))
          | (go_at_call 18; ((with_reducible refine (toRect_any rx1 ry1 rw1 rh1 _).mono ?_)); rintro e w2 ⟨rfl, hb2⟩; have B2 : Below W.heap.size W w2 := later (by go_grown) hb2; have s2 := hb2.size; (try simp at s2); (try (have ⟨k2_0, f2_0, y2_0⟩ := keep3 hb2 (w.heap.size) (by first | omega | (simp; done) | (simp; omega)))); (try (have ⟨k2_1, f2_1, y2_1⟩ := keep3 hb2 (w.heap.size + 1) (by first | omega | (simp; done) | (simp; omega)))); (try (have ⟨k2_2, f2_2, y2_2⟩ := keep3 hb2 (W.heap.size) (by first | omega | (simp; done) | (simp; omega)))); (try (have ⟨k2_3, f2_3, y2_3⟩ := keep3 hb2 (w1.heap.size) (by first | omega | (simp; done) | (simp; omega)))))
          | (go_at_call 28; ((with_reducible refine (implBounds _ _ _ _ _ _ _ _ _).mono ?_)); rintro e w3 ⟨rfl, hb3⟩; have B3 : Below W.heap.size W w3 := later (by go_grown) hb3; have s3 := hb3.size; (try simp at s3); (try (have ⟨k3_0, f3_0, y3_0⟩ := keep3 hb3 (w.heap.size) (by first | omega | (simp; done) | (simp; omega)))); (try (have ⟨k3_1, f3_1, y3_1⟩ := keep3 hb3 (w.heap.size + 1) (by first | omega | (simp; done) | (simp; omega)))); (try (have ⟨k3_2, f3_2, y3_2⟩ := keep3 hb3 (W.heap.size) (by first | omega | (simp; done) | (simp; omega)))); (try (have ⟨k3_3, f3_3, y3_3⟩ := keep3 hb3 (w1.heap.size) (by first | omega | (simp; done) | (simp; omega)))); (try (have ⟨k3_4, f3_4, y3_4⟩ := keep3 hb3 (w2.heap.size) (by first | omega | (simp; done) | (simp; omega))))))
      all_goals
        go_wp2_with fail
        go_meet
        case rel => exact ⟨_, rfl, by omega, by (try simp); (try omega), by simp [Box4, go_sem, *], by go_grown⟩
    case rest =>
      obtain ⟨b1, rfl, hb1, hs1, hx1, BX⟩ := hcut
      have ⟨x0, x1, x2, x3⟩ := HX.out.below BX hs0
      obtain ⟨y0, y1, y2, y3⟩ := hx1
      have BW3 : Below w.heap.size w wc := BW2.trans (BX.mono BW2.size)
      go_wp2_with fail
      refine (eqRect_same _ _ _ _ _).mono ?_
      rintro e w9 ⟨rfl, hb9⟩
      have BW4 : Below w.heap.size w w9 := BW3.trans (hb9.mono BW3.size)
      go_wp2
      go_ret
      exact ⟨rfl, BW4⟩
end Go.Proofs.Ytadghhajegpaiaa
