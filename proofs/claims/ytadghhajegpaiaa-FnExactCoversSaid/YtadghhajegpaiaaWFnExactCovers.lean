/- The law FnExactCovers: it returns true. -/
import Derived.Test.YtadghhajegpaiaaCov
import Derived.Deep.RegionHeld3
import Derived.Deep.DeepCutAuto
namespace Go.Proofs.Ytadghhajegpaiaa
open Go.RowKit
set_option linter.unusedVariables false
set_option maxHeartbeats 8000000 in
theorem walkFnExactCovers (rx0 ry0 rw0 rh0 : Int) (rx1 ry1 rw1 rh1 : Int) (w : World) (wrx0 : (Lit.int .i64 rx0).wf = true) (wry0 : (Lit.int .i64 ry0).wf = true) (wrw0 : (Lit.int .i64 rw0).wf = true) (wrh0 : (Lit.int .i64 rh0).wf = true) (wrx1 : (Lit.int .i64 rx1).wf = true) (wry1 : (Lit.int .i64 ry1).wf = true) (wrw1 : (Lit.int .i64 rw1).wf = true) (wrh1 : (Lit.int .i64 rh1).wf = true) : Calls Try.prog 4 #[.agg #[.int .i64 rx0, .int .i64 ry0, .int .i64 rw0, .int .i64 rh0], .agg #[.int .i64 rx1, .int .i64 ry1, .int .i64 rw1, .int .i64 rh1]] w fun e w' => e = .returned (.bool true) ∧ Below w.heap.size w w' := by
  have Bw : Below w.heap.size w w := Below.refl _ _
  have bsw := Bw.size
  clear wrx0 wry0 wrw0 wrh0
  clear wrx1 wry1 wrw1 wrh1
  go_enter Try.func4, Try.ntmps4
  go_wp2_with fail
  have bv1 : Below w.heap.size w ((w.alloc (.cells #[.int .i64 rx0, .int .i64 ry0, .int .i64 rw0, .int .i64 rh0] 25)).alloc (.cells #[.int .i64 rx1, .int .i64 ry1, .int .i64 rw1, .int .i64 rh1] 25)) := by go_grown
  have sv1 : w.heap.size + 2 ≤ ((w.alloc (.cells #[.int .i64 rx0, .int .i64 ry0, .int .i64 rw0, .int .i64 rh0] 25)).alloc (.cells #[.int .i64 rx1, .int .i64 ry1, .int .i64 rw1, .int .i64 rh1] 25)).heap.size := by simp
  have rv1 : ((w.alloc (.cells #[.int .i64 rx0, .int .i64 ry0, .int .i64 rw0, .int .i64 rh0] 25)).alloc (.cells #[.int .i64 rx1, .int .i64 ry1, .int .i64 rw1, .int .i64 rh1] 25)).heap.size ≤ w.heap.size + 2 := by simp
  have Za0v1 : Box ((w.alloc (.cells #[.int .i64 rx0, .int .i64 ry0, .int .i64 rw0, .int .i64 rh0] 25)).alloc (.cells #[.int .i64 rx1, .int .i64 ry1, .int .i64 rw1, .int .i64 rh1] 25)) (w.heap.size) [.int .i64 rx0, .int .i64 ry0, .int .i64 rw0, .int .i64 rh0] := Box.of4 (Below.refl _ _) _ (by first | (simp; done) | (simp; omega)) (by simp [go_sem]) (by simp [go_sem]) (by simp [go_sem]) (by simp [go_sem])
  have Za1v1 : Box ((w.alloc (.cells #[.int .i64 rx0, .int .i64 ry0, .int .i64 rw0, .int .i64 rh0] 25)).alloc (.cells #[.int .i64 rx1, .int .i64 ry1, .int .i64 rw1, .int .i64 rh1] 25)) (w.heap.size + 1) [.int .i64 rx1, .int .i64 ry1, .int .i64 rw1, .int .i64 rh1] := Box.of4 (Below.refl _ _) _ (by first | (simp; done) | (simp; omega)) (by simp [go_sem]) (by simp [go_sem]) (by simp [go_sem]) (by simp [go_sem])
  generalize ((w.alloc (.cells #[.int .i64 rx0, .int .i64 ry0, .int .i64 rw0, .int .i64 rh0] 25)).alloc (.cells #[.int .i64 rx1, .int .i64 ry1, .int .i64 rw1, .int .i64 rh1] 25)) = v1 at *
  have Bv1 : Below w.heap.size w v1 := Bw.trans (bv1.mono bsw)
  have tv1 := bv1.size
  have bsv1 := Bv1.size
  have Xa0v1 := Lib.hid Za0v1
  clear Za0v1
  have Xa1v1 := Lib.hid Za1v1
  clear Za1v1
  have ⟨qa0v1_0, qa0v1_1, qa0v1_2, qa0v1_3, qa0v1_4⟩ := Xa0v1.out.open4
  have ⟨qa1v1_0, qa1v1_1, qa1v1_2, qa1v1_3, qa1v1_4⟩ := Xa1v1.out.open4
  go_region_held3 (fun w' => w'.cell? ⟨w.heap.size, 0, none⟩ = some (.int .i64 rx0) ∧ w'.cell? ⟨w.heap.size, 1, none⟩ = some (.int .i64 ry0) ∧ w'.cell? ⟨w.heap.size, 2, none⟩ = some (.int .i64 rw0) ∧ w'.cell? ⟨w.heap.size, 3, none⟩ = some (.int .i64 rh0) ∧ w'.cell? ⟨w.heap.size + 1, 0, none⟩ = some (.int .i64 rx1) ∧ w'.cell? ⟨w.heap.size + 1, 1, none⟩ = some (.int .i64 ry1) ∧ w'.cell? ⟨w.heap.size + 1, 2, none⟩ = some (.int .i64 rw1) ∧ w'.cell? ⟨w.heap.size + 1, 3, none⟩ = some (.int .i64 rh1)) (((try dsimp only); (repeat' apply And.intro) <;> (first | (simp only [World.cell?_drew, *]; done) | (simp (disch := (first | omega | (simp; omega))) only [cell_far, cell_old, World.cell?_drew, *]; done))))
    (first
      | (go_at_call 18; ((with_reducible refine (toRect_any rx0 ry0 rw0 rh0 _).mono ?_)); rintro e w2 ⟨rfl, hbw2⟩; have bw2 : Below v1.heap.size v1 w2 := later (by go_grown) hbw2; have Bw2 : Below w.heap.size w w2 := Bv1.trans (bw2.mono bsv1); have sw2 := hbw2.size; (try simp at sw2); have tw2 := bw2.size; have bsw2 := Bw2.size; have Xa0w2 := Lib.hid (Xa0v1.out.step bw2); clear Xa0v1 qa0v1_0 qa0v1_1 qa0v1_2 qa0v1_3 qa0v1_4; have Xa1w2 := Lib.hid (Xa1v1.out.step bw2); clear Xa1v1 qa1v1_0 qa1v1_1 qa1v1_2 qa1v1_3 qa1v1_4; have ⟨qa0w2_0, qa0w2_1, qa0w2_2, qa0w2_3, qa0w2_4⟩ := Xa0w2.out.open4; have ⟨qa1w2_0, qa1w2_1, qa1w2_2, qa1w2_3, qa1w2_4⟩ := Xa1w2.out.open4)
      | (go_at_call 18; ((with_reducible refine (toRect_any rx1 ry1 rw1 rh1 _).mono ?_)); rintro e w3 ⟨rfl, hbw3⟩; have bw3 : Below w2.heap.size w2 w3 := later (by go_grown) hbw3; have Bw3 : Below w.heap.size w w3 := Bw2.trans (bw3.mono bsw2); have sw3 := hbw3.size; (try simp at sw3); have tw3 := bw3.size; have bsw3 := Bw3.size; have Xa0w3 := Lib.hid (Xa0w2.out.step bw3); clear Xa0w2 qa0w2_0 qa0w2_1 qa0w2_2 qa0w2_3 qa0w2_4; have Xa1w3 := Lib.hid (Xa1w2.out.step bw3); clear Xa1w2 qa1w2_0 qa1w2_1 qa1w2_2 qa1w2_3 qa1w2_4; have ⟨qa0w3_0, qa0w3_1, qa0w3_2, qa0w3_3, qa0w3_4⟩ := Xa0w3.out.open4; have ⟨qa1w3_0, qa1w3_1, qa1w3_2, qa1w3_3, qa1w3_4⟩ := Xa1w3.out.open4)
      | (go_at_call 17; ((with_reducible refine (specCovers rx0 ry0 rw0 rh0 rx1 ry1 rw1 rh1 _).mono ?_)); rintro e w4 ⟨rfl, hbw4⟩; have bw4 : Below w3.heap.size w3 w4 := later (by go_grown) hbw4; have Bw4 : Below w.heap.size w w4 := Bw3.trans (bw4.mono bsw3); have sw4 := hbw4.size; (try simp at sw4); have tw4 := bw4.size; have bsw4 := Bw4.size; have Xa0w4 := Lib.hid (Xa0w3.out.step bw4); clear Xa0w3 qa0w3_0 qa0w3_1 qa0w3_2 qa0w3_3 qa0w3_4; have Xa1w4 := Lib.hid (Xa1w3.out.step bw4); clear Xa1w3 qa1w3_0 qa1w3_1 qa1w3_2 qa1w3_3 qa1w3_4; have ⟨qa0w4_0, qa0w4_1, qa0w4_2, qa0w4_3, qa0w4_4⟩ := Xa0w4.out.open4; have ⟨qa1w4_0, qa1w4_1, qa1w4_2, qa1w4_3, qa1w4_4⟩ := Xa1w4.out.open4))
  go_wp2_with fail
  go_region_held3 (fun w' => w'.cell? ⟨w.heap.size, 0, none⟩ = some (.int .i64 rx0) ∧ w'.cell? ⟨w.heap.size, 1, none⟩ = some (.int .i64 ry0) ∧ w'.cell? ⟨w.heap.size, 2, none⟩ = some (.int .i64 rw0) ∧ w'.cell? ⟨w.heap.size, 3, none⟩ = some (.int .i64 rh0) ∧ w'.cell? ⟨w.heap.size + 1, 0, none⟩ = some (.int .i64 rx1) ∧ w'.cell? ⟨w.heap.size + 1, 1, none⟩ = some (.int .i64 ry1) ∧ w'.cell? ⟨w.heap.size + 1, 2, none⟩ = some (.int .i64 rw1) ∧ w'.cell? ⟨w.heap.size + 1, 3, none⟩ = some (.int .i64 rh1)) (((try dsimp only); (repeat' apply And.intro) <;> (first | (simp only [World.cell?_drew, *]; done) | (simp (disch := (first | omega | (simp; omega))) only [cell_far, cell_old, World.cell?_drew, *]; done))))
    (first
      | (go_at_call 18; ((with_reducible refine (toRect_any rx0 ry0 rw0 rh0 _).mono ?_)); rintro e w5 ⟨rfl, hbw5⟩; have bw5 : Below w4.heap.size w4 w5 := later (by go_grown) hbw5; have Bw5 : Below w.heap.size w w5 := Bw4.trans (bw5.mono bsw4); have sw5 := hbw5.size; (try simp at sw5); have tw5 := bw5.size; have bsw5 := Bw5.size; have Xa0w5 := Lib.hid (Xa0w4.out.step bw5); clear Xa0w4 qa0w4_0 qa0w4_1 qa0w4_2 qa0w4_3 qa0w4_4; have Xa1w5 := Lib.hid (Xa1w4.out.step bw5); clear Xa1w4 qa1w4_0 qa1w4_1 qa1w4_2 qa1w4_3 qa1w4_4; have ⟨qa0w5_0, qa0w5_1, qa0w5_2, qa0w5_3, qa0w5_4⟩ := Xa0w5.out.open4; have ⟨qa1w5_0, qa1w5_1, qa1w5_2, qa1w5_3, qa1w5_4⟩ := Xa1w5.out.open4)
      | (go_at_call 18; ((with_reducible refine (toRect_any rx1 ry1 rw1 rh1 _).mono ?_)); rintro e w6 ⟨rfl, hbw6⟩; have bw6 : Below w5.heap.size w5 w6 := later (by go_grown) hbw6; have Bw6 : Below w.heap.size w w6 := Bw5.trans (bw6.mono bsw5); have sw6 := hbw6.size; (try simp at sw6); have tw6 := bw6.size; have bsw6 := Bw6.size; have Xa0w6 := Lib.hid (Xa0w5.out.step bw6); clear Xa0w5 qa0w5_0 qa0w5_1 qa0w5_2 qa0w5_3 qa0w5_4; have Xa1w6 := Lib.hid (Xa1w5.out.step bw6); clear Xa1w5 qa1w5_0 qa1w5_1 qa1w5_2 qa1w5_3 qa1w5_4; have ⟨qa0w6_0, qa0w6_1, qa0w6_2, qa0w6_3, qa0w6_4⟩ := Xa0w6.out.open4; have ⟨qa1w6_0, qa1w6_1, qa1w6_2, qa1w6_3, qa1w6_4⟩ := Xa1w6.out.open4)
      | (go_at_call 19; ((with_reducible refine (implCovers rx0 ry0 rw0 rh0 rx1 ry1 rw1 rh1 _).mono ?_)); rintro e w7 ⟨rfl, hbw7⟩; have bw7 : Below w6.heap.size w6 w7 := later (by go_grown) hbw7; have Bw7 : Below w.heap.size w w7 := Bw6.trans (bw7.mono bsw6); have sw7 := hbw7.size; (try simp at sw7); have tw7 := bw7.size; have bsw7 := Bw7.size; have Xa0w7 := Lib.hid (Xa0w6.out.step bw7); clear Xa0w6 qa0w6_0 qa0w6_1 qa0w6_2 qa0w6_3 qa0w6_4; have Xa1w7 := Lib.hid (Xa1w6.out.step bw7); clear Xa1w6 qa1w6_0 qa1w6_1 qa1w6_2 qa1w6_3 qa1w6_4; have ⟨qa0w7_0, qa0w7_1, qa0w7_2, qa0w7_3, qa0w7_4⟩ := Xa0w7.out.open4; have ⟨qa1w7_0, qa1w7_1, qa1w7_2, qa1w7_3, qa1w7_4⟩ := Xa1w7.out.open4))
  go_wp2_with fail
  go_ret
  exact ⟨rfl, by go_grown⟩
end Go.Proofs.Ytadghhajegpaiaa
