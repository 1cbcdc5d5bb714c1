/- The law FnExactScaled: it returns true. -/
import Derived.Test.YtbgemonpkncldaaWalks4
import Derived.Test.YtbgemonpkncldaaMap3
namespace Go.Proofs.Ytbgemonpkncldaa
open Go.RowKit
set_option linter.unusedVariables false
set_option maxHeartbeats 8000000 in
theorem walkFnExactScaled (ix0 iy0 : Int) (A0 : Option Addr) (n0 c0 : Nat) (z0 : List Int) (a1 : Int) (a2 : Int) (w : World) (wix0 : (Lit.int .i64 ix0).wf = true) (wiy0 : (Lit.int .i64 iy0).wf = true) (hr0 : IsRow .i64 w A0 n0 c0 z0) (wa1 : (Lit.int .i64 a1).wf = true) (wa2 : (Lit.int .i64 a2).wf = true) : Calls Try.prog 8 #[.agg #[.int .i64 ix0, .int .i64 iy0, .slice A0 n0 c0], .int .i64 a1, .int .i64 a2] w fun e w' => e = .returned (.bool true) ∧ Below w.heap.size w w' := by
  have Bw : Below w.heap.size w w := Below.refl _ _
  have bsw := Bw.size
  obtain ⟨ha0, hl0, hm0, hq0⟩ := Arg.of_row hr0
  generalize z0.take n0 = zs0 at *
  have arg0 := Lib.hid ha0
  have L0 := Lib.hid hl0
  clear ha0 hl0 hr0 hq0 wix0 wiy0
  clear wa1
  clear wa2
  have hT := Pl.scaled_len ⟨ix0, iy0, zs0⟩ a1 a2
  have hZ : zs0.length ≤ 9223372036854775807 := by rw [L0.out]; exact hm0
  by_cases hbig0 : 1048576 < (n0 : Int)
  · have hs := szd_big hbig0
    have HS := Lib.hid hs
    clear hs
    go_enter Try.func8, Try.ntmps8
    go_wp2_with fail
    refine (szImage_any _ _ _ _ _ _ _ (by omega) (by omega) (by omega)).mono ?_
    rintro e w1 ⟨rfl, hbw1⟩
    have bw1 : Below w.heap.size w w1 := later (by go_grown) hbw1
    have Bw1 : Below w.heap.size w w1 := Bw.trans (bw1.mono bsw)
    have sw1 := hbw1.size
    (try simp at sw1)
    have tw1 := bw1.size
    have bsw1 := Bw1.size
    have Xa0w1 := Lib.hid (Box.of3 hbw1 (w.heap.size) (by first | omega | (simp; done) | (simp; omega)) (v0 := .int .i64 ix0)  (v1 := .int .i64 iy0)  (v2 := .slice A0 n0 c0) (by simp [go_sem]) (by simp [go_sem]) (by simp [go_sem]))
    have ⟨qa0w1_0, qa0w1_1, qa0w1_2, qa0w1_3⟩ := Xa0w1.out.open3
    rw [HS.out]
    go_wp2_with fail
    go_ret
    exact ⟨rfl, by go_grown⟩
  skip
  have hsm0 : n0 ≤ 1048576 := by omega
  go_enter Try.func8, Try.ntmps8
  go_wp2_with fail
  refine (szImage_any _ _ _ _ _ _ _ (by omega) (by omega) (by omega)).mono ?_
  rintro e w1 ⟨rfl, hbw1⟩
  have bw1 : Below w.heap.size w w1 := later (by go_grown) hbw1
  have Bw1 : Below w.heap.size w w1 := Bw.trans (bw1.mono bsw)
  have sw1 := hbw1.size
  (try simp at sw1)
  have tw1 := bw1.size
  have bsw1 := Bw1.size
  have Xa0w1 := Lib.hid (Box.of3 hbw1 (w.heap.size) (by first | omega | (simp; done) | (simp; omega)) (v0 := .int .i64 ix0)  (v1 := .int .i64 iy0)  (v2 := .slice A0 n0 c0) (by simp [go_sem]) (by simp [go_sem]) (by simp [go_sem]))
  have ⟨qa0w1_0, qa0w1_1, qa0w1_2, qa0w1_3⟩ := Xa0w1.out.open3
  rw [szd_small (by omega)]
  have hZ0 : zs0.length ≤ 1048576 := by rw [L0.out]; exact hsm0
  go_wp2_with fail
  refine (toImage_any _ _ _ _ _ zs0 _ (arg0.out.below (by go_grown)) L0.out hsm0).mono ?_
  rintro e w2 ⟨Aw2, cw2, rfl, Ow2, hbw2⟩
  have bw2 : Below w1.heap.size w1 w2 := later (by go_grown) hbw2
  have Bw2 : Below w.heap.size w w2 := Bw1.trans (bw2.mono bsw1)
  have sw2 := hbw2.size
  (try simp at sw2)
  have tw2 := bw2.size
  have bsw2 := Bw2.size
  have Xa0w2 := Lib.hid (Xa0w1.out.step bw2)
  clear Xa0w1 qa0w1_0 qa0w1_1 qa0w1_2 qa0w1_3
  have ⟨qa0w2_0, qa0w2_1, qa0w2_2, qa0w2_3⟩ := Xa0w2.out.open3
  have Iuw2 : Hid (Ints w2 (w1.heap.size) w2.heap.size _ _) := Own.mono Ow2 (by (try simp); (try omega)) (Nat.le_refl _) (Nat.le_refl _)
  clear Ow2
  go_wp2_with fail
  refine (specScaled _ _ _ _ _ (w1.heap.size) (w2.heap.size) zs0 _ _ _ (Iuw2.out.step (by go_grown))).mono ?_
  rintro e w3 ⟨Aw3, cw3, rfl, Ow3, hbw3⟩
  have bw3 : Below w2.heap.size w2 w3 := later (by go_grown) hbw3
  have Bw3 : Below w.heap.size w w3 := Bw2.trans (bw3.mono bsw2)
  have sw3 := hbw3.size
  (try simp at sw3)
  have tw3 := bw3.size
  have bsw3 := Bw3.size
  have Xa0w3 := Lib.hid (Xa0w2.out.step bw3)
  clear Xa0w2 qa0w2_0 qa0w2_1 qa0w2_2 qa0w2_3
  have ⟨qa0w3_0, qa0w3_1, qa0w3_2, qa0w3_3⟩ := Xa0w3.out.open3
  have Iuw3 := Lib.hid (Iuw2.out.step bw3)
  clear Iuw2
  have Iww3 : Hid (Ints w3 (w2.heap.size) w3.heap.size _ _) := Own.mono Ow3 (by (try simp); (try omega)) (Nat.le_refl _) (Nat.le_refl _)
  clear Ow3
  go_wp2_with fail
  refine (toImage_any _ _ _ _ _ zs0 _ (arg0.out.below (by go_grown)) L0.out hsm0).mono ?_
  rintro e w4 ⟨Aw4, cw4, rfl, Ow4, hbw4⟩
  have bw4 : Below w3.heap.size w3 w4 := later (by go_grown) hbw4
  have Bw4 : Below w.heap.size w w4 := Bw3.trans (bw4.mono bsw3)
  have sw4 := hbw4.size
  (try simp at sw4)
  have tw4 := bw4.size
  have bsw4 := Bw4.size
  have Xa0w4 := Lib.hid (Xa0w3.out.step bw4)
  clear Xa0w3 qa0w3_0 qa0w3_1 qa0w3_2 qa0w3_3
  have Xww4 := Lib.hid (Box.of3 hbw4 (w3.heap.size) (by first | omega | (simp; done) | (simp; omega)) (v0 := .int .i64 (Pl.scaled ⟨ix0, iy0, zs0⟩ a1 a2).w)  (v1 := .int .i64 (Pl.scaled ⟨ix0, iy0, zs0⟩ a1 a2).h)  (v2 := .slice Aw3 (Pl.scaled ⟨ix0, iy0, zs0⟩ a1 a2).d.length cw3) (by simp [go_sem]) (by simp [go_sem]) (by simp [go_sem]))
  have ⟨qa0w4_0, qa0w4_1, qa0w4_2, qa0w4_3⟩ := Xa0w4.out.open3
  have ⟨qww4_0, qww4_1, qww4_2, qww4_3⟩ := Xww4.out.open3
  have Iuw4 := Lib.hid (Iuw3.out.step bw4)
  clear Iuw3
  have Iww4 := Lib.hid (Iww3.out.step bw4)
  clear Iww3
  have Ixw4 : Hid (Ints w4 (w3.heap.size + 1) w4.heap.size _ _) := Own.mono Ow4 (by (try simp); (try omega)) (Nat.le_refl _) (Nat.le_refl _)
  clear Ow4
  go_wp2_with fail
  refine (implScaled _ _ _ _ _ (w3.heap.size + 1) (w4.heap.size) zs0 _ _ _ (Ixw4.out.step (by go_grown))).mono ?_
  rintro e w5 ⟨Aw5, cw5, rfl, Ow5, hbw5⟩
  have bw5 : Below w4.heap.size w4 w5 := later (by go_grown) hbw5
  have Bw5 : Below w.heap.size w w5 := Bw4.trans (bw5.mono bsw4)
  have sw5 := hbw5.size
  (try simp at sw5)
  have tw5 := bw5.size
  have bsw5 := Bw5.size
  have Xa0w5 := Lib.hid (Xa0w4.out.step bw5)
  clear Xa0w4 qa0w4_0 qa0w4_1 qa0w4_2 qa0w4_3
  have Xww5 := Lib.hid (Xww4.out.step bw5)
  clear Xww4 qww4_0 qww4_1 qww4_2 qww4_3
  have Xxw5 := Lib.hid (Box.of3 hbw5 (w4.heap.size) (by first | omega | (simp; done) | (simp; omega)) (v0 := .int .i64 ix0)  (v1 := .int .i64 iy0)  (v2 := .slice Aw4 zs0.length cw4) (by simp [go_sem]) (by simp [go_sem]) (by simp [go_sem]))
  have ⟨qa0w5_0, qa0w5_1, qa0w5_2, qa0w5_3⟩ := Xa0w5.out.open3
  have ⟨qww5_0, qww5_1, qww5_2, qww5_3⟩ := Xww5.out.open3
  have ⟨qxw5_0, qxw5_1, qxw5_2, qxw5_3⟩ := Xxw5.out.open3
  have Iuw5 := Lib.hid (Iuw4.out.step bw5)
  clear Iuw4
  have Iww5 := Lib.hid (Iww4.out.step bw5)
  clear Iww4
  have Ixw5 := Lib.hid (Ixw4.out.step bw5)
  clear Ixw4
  have Igw5 : Hid (Ints w5 (w4.heap.size + 1) w5.heap.size _ _) := Own.mono Ow5 (by (try simp); (try omega)) (Nat.le_refl _) (Nat.le_refl _)
  clear Ow5
  go_wp2_with fail
  refine (eqImage_same _ _ _ _ _ _ _ _ (w4.heap.size + 1) (w5.heap.size) (w2.heap.size) (w3.heap.size) (Pl.scaled ⟨ix0, iy0, zs0⟩ a1 a2).d _ (Igw5.out.step (by go_grown)) (Iww5.out.step (by go_grown))).mono ?_
  rintro e w6 ⟨rfl, hbw6⟩
  have bw6 : Below w5.heap.size w5 w6 := later (by go_grown) hbw6
  have Bw6 : Below w.heap.size w w6 := Bw5.trans (bw6.mono bsw5)
  have sw6 := hbw6.size
  (try simp at sw6)
  have tw6 := bw6.size
  have bsw6 := Bw6.size
  have Xa0w6 := Lib.hid (Xa0w5.out.step bw6)
  clear Xa0w5 qa0w5_0 qa0w5_1 qa0w5_2 qa0w5_3
  have Xww6 := Lib.hid (Xww5.out.step bw6)
  clear Xww5 qww5_0 qww5_1 qww5_2 qww5_3
  have Xxw6 := Lib.hid (Xxw5.out.step bw6)
  clear Xxw5 qxw5_0 qxw5_1 qxw5_2 qxw5_3
  have Xgw6 := Lib.hid (Box.of3 hbw6 (w5.heap.size) (by first | omega | (simp; done) | (simp; omega)) (v0 := .int .i64 (Pl.scaled ⟨ix0, iy0, zs0⟩ a1 a2).w)  (v1 := .int .i64 (Pl.scaled ⟨ix0, iy0, zs0⟩ a1 a2).h)  (v2 := .slice Aw5 (Pl.scaled ⟨ix0, iy0, zs0⟩ a1 a2).d.length cw5) (by simp [go_sem]) (by simp [go_sem]) (by simp [go_sem]))
  have ⟨qa0w6_0, qa0w6_1, qa0w6_2, qa0w6_3⟩ := Xa0w6.out.open3
  have ⟨qww6_0, qww6_1, qww6_2, qww6_3⟩ := Xww6.out.open3
  have ⟨qxw6_0, qxw6_1, qxw6_2, qxw6_3⟩ := Xxw6.out.open3
  have ⟨qgw6_0, qgw6_1, qgw6_2, qgw6_3⟩ := Xgw6.out.open3
  have Iuw6 := Lib.hid (Iuw5.out.step bw6)
  clear Iuw5
  have Iww6 := Lib.hid (Iww5.out.step bw6)
  clear Iww5
  have Ixw6 := Lib.hid (Ixw5.out.step bw6)
  clear Ixw5
  have Igw6 := Lib.hid (Igw5.out.step bw6)
  clear Igw5
  go_wp2_with fail
  go_region_held3 (fun w' => w'.cell? ⟨w4.heap.size, 0, none⟩ = some (.int .i64 ix0) ∧ w'.cell? ⟨w4.heap.size, 1, none⟩ = some (.int .i64 iy0) ∧ w'.cell? ⟨w4.heap.size, 2, none⟩ = some (.slice Aw4 zs0.length cw4) ∧ w'.cell? ⟨w.heap.size, 0, none⟩ = some (.int .i64 ix0) ∧ w'.cell? ⟨w.heap.size, 1, none⟩ = some (.int .i64 iy0) ∧ w'.cell? ⟨w.heap.size, 2, none⟩ = some (.slice A0 n0 c0)) (((try dsimp only); (repeat' apply And.intro) <;> (first | (simp only [World.cell?_drew, *]; done) | (simp (disch := (first | omega | (simp; omega))) only [cell_far, cell_old, World.cell?_drew, *]; done))))
    (first
      | (go_at_call 16; ((with_reducible refine (toImage_any _ _ _ _ _ zs0 _ (arg0.out.below (by go_grown)) L0.out hsm0).mono ?_)); rintro e w7 ⟨Aw7, cw7, rfl, Ow7, hbw7⟩; have bw7 : Below w6.heap.size w6 w7 := later (by go_grown) hbw7; have Bw7 : Below w.heap.size w w7 := Bw6.trans (bw7.mono bsw6); have sw7 := hbw7.size; (try simp at sw7); have tw7 := bw7.size; have bsw7 := Bw7.size; have Xa0w7 := Lib.hid (Xa0w6.out.step bw7); clear Xa0w6 qa0w6_0 qa0w6_1 qa0w6_2 qa0w6_3; have Xww7 := Lib.hid (Xww6.out.step bw7); clear Xww6 qww6_0 qww6_1 qww6_2 qww6_3; have Xxw7 := Lib.hid (Xxw6.out.step bw7); clear Xxw6 qxw6_0 qxw6_1 qxw6_2 qxw6_3; have Xgw7 := Lib.hid (Xgw6.out.step bw7); clear Xgw6 qgw6_0 qgw6_1 qgw6_2 qgw6_3; have ⟨qa0w7_0, qa0w7_1, qa0w7_2, qa0w7_3⟩ := Xa0w7.out.open3; have ⟨qww7_0, qww7_1, qww7_2, qww7_3⟩ := Xww7.out.open3; have ⟨qxw7_0, qxw7_1, qxw7_2, qxw7_3⟩ := Xxw7.out.open3; have ⟨qgw7_0, qgw7_1, qgw7_2, qgw7_3⟩ := Xgw7.out.open3; have Iuw7 := Lib.hid (Iuw6.out.step bw7); clear Iuw6; have Iww7 := Lib.hid (Iww6.out.step bw7); clear Iww6; have Ixw7 := Lib.hid (Ixw6.out.step bw7); clear Ixw6; have Igw7 := Lib.hid (Igw6.out.step bw7); clear Igw6; have Itw7 : Hid (Ints w7 (w6.heap.size) w7.heap.size _ _) := Own.mono Ow7 (by (try simp); (try omega)) (Nat.le_refl _) (Nat.le_refl _); clear Ow7)
      | (go_at_call 18; ((with_reducible refine (eqImage_same _ _ _ _ _ _ _ _ (w3.heap.size + 1) (w4.heap.size) (w6.heap.size) (w7.heap.size) zs0 _ (Ixw7.out.step (by go_grown)) (Itw7.out.step (by go_grown))).mono ?_)); rintro e w8 ⟨rfl, hbw8⟩; have bw8 : Below w7.heap.size w7 w8 := later (by go_grown) hbw8; have Bw8 : Below w.heap.size w w8 := Bw7.trans (bw8.mono bsw7); have sw8 := hbw8.size; (try simp at sw8); have tw8 := bw8.size; have bsw8 := Bw8.size; have Xa0w8 := Lib.hid (Xa0w7.out.step bw8); clear Xa0w7 qa0w7_0 qa0w7_1 qa0w7_2 qa0w7_3; have Xww8 := Lib.hid (Xww7.out.step bw8); clear Xww7 qww7_0 qww7_1 qww7_2 qww7_3; have Xxw8 := Lib.hid (Xxw7.out.step bw8); clear Xxw7 qxw7_0 qxw7_1 qxw7_2 qxw7_3; have Xgw8 := Lib.hid (Xgw7.out.step bw8); clear Xgw7 qgw7_0 qgw7_1 qgw7_2 qgw7_3; have ⟨qa0w8_0, qa0w8_1, qa0w8_2, qa0w8_3⟩ := Xa0w8.out.open3; have ⟨qww8_0, qww8_1, qww8_2, qww8_3⟩ := Xww8.out.open3; have ⟨qxw8_0, qxw8_1, qxw8_2, qxw8_3⟩ := Xxw8.out.open3; have ⟨qgw8_0, qgw8_1, qgw8_2, qgw8_3⟩ := Xgw8.out.open3; have Iuw8 := Lib.hid (Iuw7.out.step bw8); clear Iuw7; have Iww8 := Lib.hid (Iww7.out.step bw8); clear Iww7; have Ixw8 := Lib.hid (Ixw7.out.step bw8); clear Ixw7; have Igw8 := Lib.hid (Igw7.out.step bw8); clear Igw7; have Itw8 := Lib.hid (Itw7.out.step bw8); clear Itw7))
  go_wp2_with fail
  refine (markImage_any _ _ _ _ _ (w3.heap.size + 1) (w4.heap.size) zs0 _ _ (Ixw8.out.step (by go_grown)) (by omega) (by omega)).mono ?_
  rintro e w9 ⟨rfl, Ow9, how9⟩
  have ow9 : Out (w3.heap.size + 1) (w4.heap.size) w8 w9 := (Out.of_below (by go_grown) _ _).trans how9
  have Bw9 : Below w.heap.size w w9 := below_out Bw8 ow9 (by omega) bsw8
  have tw9 := ow9.size
  have bsw9 := Bw9.size
  have Xa0w9 := Lib.hid (Xa0w8.out.out ow9 (by omega))
  clear Xa0w8 qa0w8_0 qa0w8_1 qa0w8_2 qa0w8_3
  have Xww9 := Lib.hid (Xww8.out.out ow9 (by omega))
  clear Xww8 qww8_0 qww8_1 qww8_2 qww8_3
  have Xxw9 := Lib.hid (Xxw8.out.out ow9 (by omega))
  clear Xxw8 qxw8_0 qxw8_1 qxw8_2 qxw8_3
  have Xgw9 := Lib.hid (Xgw8.out.out ow9 (by omega))
  clear Xgw8 qgw8_0 qgw8_1 qgw8_2 qgw8_3
  have ⟨qa0w9_0, qa0w9_1, qa0w9_2, qa0w9_3⟩ := Xa0w9.out.open3
  have ⟨qww9_0, qww9_1, qww9_2, qww9_3⟩ := Xww9.out.open3
  have ⟨qxw9_0, qxw9_1, qxw9_2, qxw9_3⟩ := Xxw9.out.open3
  have ⟨qgw9_0, qgw9_1, qgw9_2, qgw9_3⟩ := Xgw9.out.open3
  have Iuw9 := Lib.hid (Iuw8.out.out ow9 (by omega))
  clear Iuw8
  have Iww9 := Lib.hid (Iww8.out.out ow9 (by omega))
  clear Iww8
  clear Ixw8
  have Igw9 := Lib.hid (Igw8.out.out ow9 (by omega))
  clear Igw8
  have Itw9 := Lib.hid (Itw8.out.out ow9 (by omega))
  clear Itw8
  have Ixw9 := Lib.hid Ow9
  clear Ow9
  go_wp2_with fail
  refine (eqImage_same _ _ _ _ _ _ _ _ (w4.heap.size + 1) (w5.heap.size) (w2.heap.size) (w3.heap.size) (Pl.scaled ⟨ix0, iy0, zs0⟩ a1 a2).d _ (Igw9.out.step (by go_grown)) (Iww9.out.step (by go_grown))).mono ?_
  rintro e w10 ⟨rfl, hbw10⟩
  have bw10 : Below w9.heap.size w9 w10 := later (by go_grown) hbw10
  have Bw10 : Below w.heap.size w w10 := Bw9.trans (bw10.mono bsw9)
  have sw10 := hbw10.size
  (try simp at sw10)
  have tw10 := bw10.size
  have bsw10 := Bw10.size
  have Xa0w10 := Lib.hid (Xa0w9.out.step bw10)
  clear Xa0w9 qa0w9_0 qa0w9_1 qa0w9_2 qa0w9_3
  have Xww10 := Lib.hid (Xww9.out.step bw10)
  clear Xww9 qww9_0 qww9_1 qww9_2 qww9_3
  have Xxw10 := Lib.hid (Xxw9.out.step bw10)
  clear Xxw9 qxw9_0 qxw9_1 qxw9_2 qxw9_3
  have Xgw10 := Lib.hid (Xgw9.out.step bw10)
  clear Xgw9 qgw9_0 qgw9_1 qgw9_2 qgw9_3
  have ⟨qa0w10_0, qa0w10_1, qa0w10_2, qa0w10_3⟩ := Xa0w10.out.open3
  have ⟨qww10_0, qww10_1, qww10_2, qww10_3⟩ := Xww10.out.open3
  have ⟨qxw10_0, qxw10_1, qxw10_2, qxw10_3⟩ := Xxw10.out.open3
  have ⟨qgw10_0, qgw10_1, qgw10_2, qgw10_3⟩ := Xgw10.out.open3
  have Iuw10 := Lib.hid (Iuw9.out.step bw10)
  clear Iuw9
  have Iww10 := Lib.hid (Iww9.out.step bw10)
  clear Iww9
  have Ixw10 := Lib.hid (Ixw9.out.step bw10)
  clear Ixw9
  have Igw10 := Lib.hid (Igw9.out.step bw10)
  clear Igw9
  have Itw10 := Lib.hid (Itw9.out.step bw10)
  clear Itw9
  go_wp2_with fail
  refine (markImage_any _ _ _ _ _ (w4.heap.size + 1) (w5.heap.size) (Pl.scaled ⟨ix0, iy0, zs0⟩ a1 a2).d _ _ (Igw10.out.step (by go_grown)) (by omega) (by omega)).mono ?_
  rintro e w11 ⟨rfl, Ow11, how11⟩
  have ow11 : Out (w4.heap.size + 1) (w5.heap.size) w10 w11 := (Out.of_below (by go_grown) _ _).trans how11
  have Bw11 : Below w.heap.size w w11 := below_out Bw10 ow11 (by omega) bsw10
  have tw11 := ow11.size
  have bsw11 := Bw11.size
  have Xa0w11 := Lib.hid (Xa0w10.out.out ow11 (by omega))
  clear Xa0w10 qa0w10_0 qa0w10_1 qa0w10_2 qa0w10_3
  have Xww11 := Lib.hid (Xww10.out.out ow11 (by omega))
  clear Xww10 qww10_0 qww10_1 qww10_2 qww10_3
  have Xxw11 := Lib.hid (Xxw10.out.out ow11 (by omega))
  clear Xxw10 qxw10_0 qxw10_1 qxw10_2 qxw10_3
  have Xgw11 := Lib.hid (Xgw10.out.out ow11 (by omega))
  clear Xgw10 qgw10_0 qgw10_1 qgw10_2 qgw10_3
  have ⟨qa0w11_0, qa0w11_1, qa0w11_2, qa0w11_3⟩ := Xa0w11.out.open3
  have ⟨qww11_0, qww11_1, qww11_2, qww11_3⟩ := Xww11.out.open3
  have ⟨qxw11_0, qxw11_1, qxw11_2, qxw11_3⟩ := Xxw11.out.open3
  have ⟨qgw11_0, qgw11_1, qgw11_2, qgw11_3⟩ := Xgw11.out.open3
  have Iuw11 := Lib.hid (Iuw10.out.out ow11 (by omega))
  clear Iuw10
  have Iww11 := Lib.hid (Iww10.out.out ow11 (by omega))
  clear Iww10
  have Ixw11 := Lib.hid (Ixw10.out.out ow11 (by omega))
  clear Ixw10
  clear Igw10
  have Itw11 := Lib.hid (Itw10.out.out ow11 (by omega))
  clear Itw10
  have Igw11 := Lib.hid Ow11
  clear Ow11
  go_wp2_with fail
  refine (heldImage_same _ _ _ _ _ (w4.heap.size + 1) (w5.heap.size) _ _ (Igw11.out.step (by go_grown)) (by omega) (by omega)).mono ?_
  rintro e w12 ⟨rfl, hbw12⟩
  have bw12 : Below w11.heap.size w11 w12 := later (by go_grown) hbw12
  have Bw12 : Below w.heap.size w w12 := Bw11.trans (bw12.mono bsw11)
  have sw12 := hbw12.size
  (try simp at sw12)
  have tw12 := bw12.size
  have bsw12 := Bw12.size
  have Xa0w12 := Lib.hid (Xa0w11.out.step bw12)
  clear Xa0w11 qa0w11_0 qa0w11_1 qa0w11_2 qa0w11_3
  have Xww12 := Lib.hid (Xww11.out.step bw12)
  clear Xww11 qww11_0 qww11_1 qww11_2 qww11_3
  have Xxw12 := Lib.hid (Xxw11.out.step bw12)
  clear Xxw11 qxw11_0 qxw11_1 qxw11_2 qxw11_3
  have Xgw12 := Lib.hid (Xgw11.out.step bw12)
  clear Xgw11 qgw11_0 qgw11_1 qgw11_2 qgw11_3
  have ⟨qa0w12_0, qa0w12_1, qa0w12_2, qa0w12_3⟩ := Xa0w12.out.open3
  have ⟨qww12_0, qww12_1, qww12_2, qww12_3⟩ := Xww12.out.open3
  have ⟨qxw12_0, qxw12_1, qxw12_2, qxw12_3⟩ := Xxw12.out.open3
  have ⟨qgw12_0, qgw12_1, qgw12_2, qgw12_3⟩ := Xgw12.out.open3
  have Iuw12 := Lib.hid (Iuw11.out.step bw12)
  clear Iuw11
  have Iww12 := Lib.hid (Iww11.out.step bw12)
  clear Iww11
  have Ixw12 := Lib.hid (Ixw11.out.step bw12)
  clear Ixw11
  have Igw12 := Lib.hid (Igw11.out.step bw12)
  clear Igw11
  have Itw12 := Lib.hid (Itw11.out.step bw12)
  clear Itw11
  go_wp2_with fail
  refine (toImage_any _ _ _ _ _ zs0 _ (arg0.out.below (by go_grown)) L0.out hsm0).mono ?_
  rintro e w13 ⟨Aw13, cw13, rfl, Ow13, hbw13⟩
  have bw13 : Below w12.heap.size w12 w13 := later (by go_grown) hbw13
  have Bw13 : Below w.heap.size w w13 := Bw12.trans (bw13.mono bsw12)
  have sw13 := hbw13.size
  (try simp at sw13)
  have tw13 := bw13.size
  have bsw13 := Bw13.size
  have Xa0w13 := Lib.hid (Xa0w12.out.step bw13)
  clear Xa0w12 qa0w12_0 qa0w12_1 qa0w12_2 qa0w12_3
  have Xww13 := Lib.hid (Xww12.out.step bw13)
  clear Xww12 qww12_0 qww12_1 qww12_2 qww12_3
  have Xxw13 := Lib.hid (Xxw12.out.step bw13)
  clear Xxw12 qxw12_0 qxw12_1 qxw12_2 qxw12_3
  have Xgw13 := Lib.hid (Xgw12.out.step bw13)
  clear Xgw12 qgw12_0 qgw12_1 qgw12_2 qgw12_3
  have ⟨qa0w13_0, qa0w13_1, qa0w13_2, qa0w13_3⟩ := Xa0w13.out.open3
  have ⟨qww13_0, qww13_1, qww13_2, qww13_3⟩ := Xww13.out.open3
  have ⟨qxw13_0, qxw13_1, qxw13_2, qxw13_3⟩ := Xxw13.out.open3
  have ⟨qgw13_0, qgw13_1, qgw13_2, qgw13_3⟩ := Xgw13.out.open3
  have Iuw13 := Lib.hid (Iuw12.out.step bw13)
  clear Iuw12
  have Iww13 := Lib.hid (Iww12.out.step bw13)
  clear Iww12
  have Ixw13 := Lib.hid (Ixw12.out.step bw13)
  clear Ixw12
  have Igw13 := Lib.hid (Igw12.out.step bw13)
  clear Igw12
  have Itw13 := Lib.hid (Itw12.out.step bw13)
  clear Itw12
  have Iu2w13 : Hid (Ints w13 (w12.heap.size) w13.heap.size _ _) := Own.mono Ow13 (by (try simp); (try omega)) (Nat.le_refl _) (Nat.le_refl _)
  clear Ow13
  go_wp2_with fail
  refine (implScaled _ _ _ _ _ (w12.heap.size) (w13.heap.size) zs0 _ _ _ (Iu2w13.out.step (by go_grown))).mono ?_
  rintro e w14 ⟨Aw14, cw14, rfl, Ow14, hbw14⟩
  have bw14 : Below w13.heap.size w13 w14 := later (by go_grown) hbw14
  have Bw14 : Below w.heap.size w w14 := Bw13.trans (bw14.mono bsw13)
  have sw14 := hbw14.size
  (try simp at sw14)
  have tw14 := bw14.size
  have bsw14 := Bw14.size
  have Xa0w14 := Lib.hid (Xa0w13.out.step bw14)
  clear Xa0w13 qa0w13_0 qa0w13_1 qa0w13_2 qa0w13_3
  have Xww14 := Lib.hid (Xww13.out.step bw14)
  clear Xww13 qww13_0 qww13_1 qww13_2 qww13_3
  have Xxw14 := Lib.hid (Xxw13.out.step bw14)
  clear Xxw13 qxw13_0 qxw13_1 qxw13_2 qxw13_3
  have Xgw14 := Lib.hid (Xgw13.out.step bw14)
  clear Xgw13 qgw13_0 qgw13_1 qgw13_2 qgw13_3
  have ⟨qa0w14_0, qa0w14_1, qa0w14_2, qa0w14_3⟩ := Xa0w14.out.open3
  have ⟨qww14_0, qww14_1, qww14_2, qww14_3⟩ := Xww14.out.open3
  have ⟨qxw14_0, qxw14_1, qxw14_2, qxw14_3⟩ := Xxw14.out.open3
  have ⟨qgw14_0, qgw14_1, qgw14_2, qgw14_3⟩ := Xgw14.out.open3
  have Iuw14 := Lib.hid (Iuw13.out.step bw14)
  clear Iuw13
  have Iww14 := Lib.hid (Iww13.out.step bw14)
  clear Iww13
  have Ixw14 := Lib.hid (Ixw13.out.step bw14)
  clear Ixw13
  have Igw14 := Lib.hid (Igw13.out.step bw14)
  clear Igw13
  have Itw14 := Lib.hid (Itw13.out.step bw14)
  clear Itw13
  have Iu2w14 := Lib.hid (Iu2w13.out.step bw14)
  clear Iu2w13
  have Ihw14 : Hid (Ints w14 (w13.heap.size) w14.heap.size _ _) := Own.mono Ow14 (by (try simp); (try omega)) (Nat.le_refl _) (Nat.le_refl _)
  clear Ow14
  go_wp2_with fail
  refine (eqImage_same _ _ _ _ _ _ _ _ (w13.heap.size) (w14.heap.size) (w2.heap.size) (w3.heap.size) (Pl.scaled ⟨ix0, iy0, zs0⟩ a1 a2).d _ (Ihw14.out.step (by go_grown)) (Iww14.out.step (by go_grown))).mono ?_
  rintro e w15 ⟨rfl, hbw15⟩
  have bw15 : Below w14.heap.size w14 w15 := later (by go_grown) hbw15
  have Bw15 : Below w.heap.size w w15 := Bw14.trans (bw15.mono bsw14)
  have sw15 := hbw15.size
  (try simp at sw15)
  have tw15 := bw15.size
  have bsw15 := Bw15.size
  have Xa0w15 := Lib.hid (Xa0w14.out.step bw15)
  clear Xa0w14 qa0w14_0 qa0w14_1 qa0w14_2 qa0w14_3
  have Xww15 := Lib.hid (Xww14.out.step bw15)
  clear Xww14 qww14_0 qww14_1 qww14_2 qww14_3
  have Xxw15 := Lib.hid (Xxw14.out.step bw15)
  clear Xxw14 qxw14_0 qxw14_1 qxw14_2 qxw14_3
  have Xgw15 := Lib.hid (Xgw14.out.step bw15)
  clear Xgw14 qgw14_0 qgw14_1 qgw14_2 qgw14_3
  have Xhw15 := Lib.hid (Box.of3 hbw15 (w14.heap.size) (by first | omega | (simp; done) | (simp; omega)) (v0 := .int .i64 (Pl.scaled ⟨ix0, iy0, zs0⟩ a1 a2).w)  (v1 := .int .i64 (Pl.scaled ⟨ix0, iy0, zs0⟩ a1 a2).h)  (v2 := .slice Aw14 (Pl.scaled ⟨ix0, iy0, zs0⟩ a1 a2).d.length cw14) (by simp [go_sem]) (by simp [go_sem]) (by simp [go_sem]))
  have ⟨qa0w15_0, qa0w15_1, qa0w15_2, qa0w15_3⟩ := Xa0w15.out.open3
  have ⟨qww15_0, qww15_1, qww15_2, qww15_3⟩ := Xww15.out.open3
  have ⟨qxw15_0, qxw15_1, qxw15_2, qxw15_3⟩ := Xxw15.out.open3
  have ⟨qgw15_0, qgw15_1, qgw15_2, qgw15_3⟩ := Xgw15.out.open3
  have ⟨qhw15_0, qhw15_1, qhw15_2, qhw15_3⟩ := Xhw15.out.open3
  have Iuw15 := Lib.hid (Iuw14.out.step bw15)
  clear Iuw14
  have Iww15 := Lib.hid (Iww14.out.step bw15)
  clear Iww14
  have Ixw15 := Lib.hid (Ixw14.out.step bw15)
  clear Ixw14
  have Igw15 := Lib.hid (Igw14.out.step bw15)
  clear Igw14
  have Itw15 := Lib.hid (Itw14.out.step bw15)
  clear Itw14
  have Iu2w15 := Lib.hid (Iu2w14.out.step bw15)
  clear Iu2w14
  have Ihw15 := Lib.hid (Ihw14.out.step bw15)
  clear Ihw14
  go_wp2_with fail
  refine (heldImage_same _ _ _ _ _ (w4.heap.size + 1) (w5.heap.size) _ _ (Igw15.out.step (by go_grown)) (by omega) (by omega)).mono ?_
  rintro e w16 ⟨rfl, hbw16⟩
  have bw16 : Below w15.heap.size w15 w16 := later (by go_grown) hbw16
  have Bw16 : Below w.heap.size w w16 := Bw15.trans (bw16.mono bsw15)
  have sw16 := hbw16.size
  (try simp at sw16)
  have tw16 := bw16.size
  have bsw16 := Bw16.size
  have Xa0w16 := Lib.hid (Xa0w15.out.step bw16)
  clear Xa0w15 qa0w15_0 qa0w15_1 qa0w15_2 qa0w15_3
  have Xww16 := Lib.hid (Xww15.out.step bw16)
  clear Xww15 qww15_0 qww15_1 qww15_2 qww15_3
  have Xxw16 := Lib.hid (Xxw15.out.step bw16)
  clear Xxw15 qxw15_0 qxw15_1 qxw15_2 qxw15_3
  have Xgw16 := Lib.hid (Xgw15.out.step bw16)
  clear Xgw15 qgw15_0 qgw15_1 qgw15_2 qgw15_3
  have Xhw16 := Lib.hid (Xhw15.out.step bw16)
  clear Xhw15 qhw15_0 qhw15_1 qhw15_2 qhw15_3
  have ⟨qa0w16_0, qa0w16_1, qa0w16_2, qa0w16_3⟩ := Xa0w16.out.open3
  have ⟨qww16_0, qww16_1, qww16_2, qww16_3⟩ := Xww16.out.open3
  have ⟨qxw16_0, qxw16_1, qxw16_2, qxw16_3⟩ := Xxw16.out.open3
  have ⟨qgw16_0, qgw16_1, qgw16_2, qgw16_3⟩ := Xgw16.out.open3
  have ⟨qhw16_0, qhw16_1, qhw16_2, qhw16_3⟩ := Xhw16.out.open3
  have Iuw16 := Lib.hid (Iuw15.out.step bw16)
  clear Iuw15
  have Iww16 := Lib.hid (Iww15.out.step bw16)
  clear Iww15
  have Ixw16 := Lib.hid (Ixw15.out.step bw16)
  clear Ixw15
  have Igw16 := Lib.hid (Igw15.out.step bw16)
  clear Igw15
  have Itw16 := Lib.hid (Itw15.out.step bw16)
  clear Itw15
  have Iu2w16 := Lib.hid (Iu2w15.out.step bw16)
  clear Iu2w15
  have Ihw16 := Lib.hid (Ihw15.out.step bw16)
  clear Ihw15
  go_wp2_with fail
  go_ret
  exact ⟨rfl, by go_grown⟩
end Go.Proofs.Ytbgemonpkncldaa
