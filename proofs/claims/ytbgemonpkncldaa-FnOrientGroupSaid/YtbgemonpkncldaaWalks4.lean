/- The laws' walks over images, first part: each Go law returns true. -/
import Derived.Test.YtbgemonpkncldaaIm2
import Derived.Test.YtbgemonpkncldaaBox
import Derived.Deep.RegionHeld3
namespace Go.Proofs.Ytbgemonpkncldaa
open Go.RowKit
set_option linter.unusedVariables false

theorem szd_small {n : Nat} {l : Int} (h : n ≤ l) : Pl.szd l n = l - n := by unfold Pl.szd; rw [if_neg (by omega)]
theorem szd_big {n : Nat} {l : Int} (h : l < n) : Pl.szd l n = -1 := by unfold Pl.szd; rw [if_pos h]
theorem eqImage_same (W H : Int) (A1 A2 : Option Addr) (n m c1 c2 l1 h1 l2 h2 : Nat) (zs : List Int) (w : World) (I1 : Ints w l1 h1 (.slice A1 n c1) zs) (I2 : Ints w l2 h2 (.slice A2 m c2) zs) :
    Calls Try.prog 18 #[.agg #[.int .i64 W, .int .i64 H, .slice A1 n c1], .agg #[.int .i64 W, .int .i64 H, .slice A2 m c2]] w fun e w' => e = .returned (.bool true) ∧ Below w.heap.size w w' := by
  have h := eqImage_any W H W H A1 A2 n m c1 c2 l1 h1 l2 h2 zs zs w I1 I2
  simpa using h

set_option maxHeartbeats 8000000 in
theorem walkFnExactImageOk (ix0 iy0 : Int) (A0 : Option Addr) (n0 c0 : Nat) (z0 : List Int) (w : World) (wix0 : (Lit.int .i64 ix0).wf = true) (wiy0 : (Lit.int .i64 iy0).wf = true) (hr0 : IsRow .i64 w A0 n0 c0 z0) : Calls Try.prog 3 #[.agg #[.int .i64 ix0, .int .i64 iy0, .slice A0 n0 c0]] w fun e w' => e = .returned (.bool true) ∧ Below w.heap.size w w' := by
  have Bw : Below w.heap.size w w := Below.refl _ _
  have bsw := Bw.size
  obtain ⟨ha0, hl0, hm0, hq0⟩ := Arg.of_row hr0
  generalize z0.take n0 = zs0 at *
  have arg0 := Lib.hid ha0
  have L0 := Lib.hid hl0
  clear ha0 hl0 hr0 hq0 wix0 wiy0
  by_cases hbig0 : 1048576 < (n0 : Int)
  · have hs := szd_big hbig0
    have HS := Lib.hid hs
    clear hs
    go_enter Try.func3, Try.ntmps3
    go_wp2_with fail
    refine (szImage_any _ _ _ _ _ _ _ (by omega) (by omega) (by omega)).mono ?_
    rintro e w1 ⟨rfl, hbw1⟩
    have bw1 : Below w.heap.size w w1 := later (by go_grown) hbw1
    have Bw1 : Below w.heap.size w w1 := Bw.trans (bw1.mono bsw)
    have sw1 := hbw1.size
    (try simp at sw1)
    have tw1 := bw1.size
    have bsw1 := Bw1.size
    have Xa0w1 := Lib.hid (Box.of3 hbw1 (w.heap.size) (by first | omega | (simp; done) | (simp; omega)) (v0 := .int .i64 ix0)  (v1 := .int .i64 iy0)  (v2 := .slice A0 n0 c0) (by simp [go_sem]) (by simp [go_sem]) (by simp [go_sem]))
    have ⟨qa0w1_0, qa0w1_1, qa0w1_2, qa0w1_3⟩ := Xa0w1.out.open3
    rw [HS.out]
    go_wp2_with fail
    go_ret
    exact ⟨rfl, by go_grown⟩
  skip
  have hsm0 : n0 ≤ 1048576 := by omega
  go_enter Try.func3, Try.ntmps3
  go_wp2_with fail
  refine (szImage_any _ _ _ _ _ _ _ (by omega) (by omega) (by omega)).mono ?_
  rintro e w1 ⟨rfl, hbw1⟩
  have bw1 : Below w.heap.size w w1 := later (by go_grown) hbw1
  have Bw1 : Below w.heap.size w w1 := Bw.trans (bw1.mono bsw)
  have sw1 := hbw1.size
  (try simp at sw1)
  have tw1 := bw1.size
  have bsw1 := Bw1.size
  have Xa0w1 := Lib.hid (Box.of3 hbw1 (w.heap.size) (by first | omega | (simp; done) | (simp; omega)) (v0 := .int .i64 ix0)  (v1 := .int .i64 iy0)  (v2 := .slice A0 n0 c0) (by simp [go_sem]) (by simp [go_sem]) (by simp [go_sem]))
  have ⟨qa0w1_0, qa0w1_1, qa0w1_2, qa0w1_3⟩ := Xa0w1.out.open3
  rw [szd_small (by omega)]
  go_wp2_with fail
  refine (toImage_any _ _ _ _ _ zs0 _ (arg0.out.below (by go_grown)) L0.out hsm0).mono ?_
  rintro e w2 ⟨Aw2, cw2, rfl, Ow2, hbw2⟩
  have bw2 : Below w1.heap.size w1 w2 := later (by go_grown) hbw2
  have Bw2 : Below w.heap.size w w2 := Bw1.trans (bw2.mono bsw1)
  have sw2 := hbw2.size
  (try simp at sw2)
  have tw2 := bw2.size
  have bsw2 := Bw2.size
  have Xa0w2 := Lib.hid (Xa0w1.out.step bw2)
  clear Xa0w1 qa0w1_0 qa0w1_1 qa0w1_2 qa0w1_3
  have ⟨qa0w2_0, qa0w2_1, qa0w2_2, qa0w2_3⟩ := Xa0w2.out.open3
  have Iuw2 : Hid (Ints w2 w1.heap.size w2.heap.size _ _) := Own.mono Ow2 (by (try simp); (try omega)) (Nat.le_refl _) (Nat.le_refl _)
  clear Ow2
  go_wp2_with fail
  refine (specImageOk _ _ _ _ _ w1.heap.size w2.heap.size zs0 _ (Iuw2.out.step (by go_grown))).mono ?_
  rintro e w3 ⟨rfl, hbw3⟩
  have bw3 : Below w2.heap.size w2 w3 := later (by go_grown) hbw3
  have Bw3 : Below w.heap.size w w3 := Bw2.trans (bw3.mono bsw2)
  have sw3 := hbw3.size
  (try simp at sw3)
  have tw3 := bw3.size
  have bsw3 := Bw3.size
  have Xa0w3 := Lib.hid (Xa0w2.out.step bw3)
  clear Xa0w2 qa0w2_0 qa0w2_1 qa0w2_2 qa0w2_3
  have ⟨qa0w3_0, qa0w3_1, qa0w3_2, qa0w3_3⟩ := Xa0w3.out.open3
  have Iuw3 := Lib.hid (Iuw2.out.step bw3)
  clear Iuw2
  go_wp2_with fail
  refine (toImage_any _ _ _ _ _ zs0 _ (arg0.out.below (by go_grown)) L0.out hsm0).mono ?_
  rintro e w4 ⟨Aw4, cw4, rfl, Ow4, hbw4⟩
  have bw4 : Below w3.heap.size w3 w4 := later (by go_grown) hbw4
  have Bw4 : Below w.heap.size w w4 := Bw3.trans (bw4.mono bsw3)
  have sw4 := hbw4.size
  (try simp at sw4)
  have tw4 := bw4.size
  have bsw4 := Bw4.size
  have Xa0w4 := Lib.hid (Xa0w3.out.step bw4)
  clear Xa0w3 qa0w3_0 qa0w3_1 qa0w3_2 qa0w3_3
  have ⟨qa0w4_0, qa0w4_1, qa0w4_2, qa0w4_3⟩ := Xa0w4.out.open3
  have Iuw4 := Lib.hid (Iuw3.out.step bw4)
  clear Iuw3
  have Ixw4 : Hid (Ints w4 w3.heap.size w4.heap.size _ _) := Own.mono Ow4 (by (try simp); (try omega)) (Nat.le_refl _) (Nat.le_refl _)
  clear Ow4
  go_wp2_with fail
  refine (implImageOk _ _ _ _ _ w3.heap.size w4.heap.size zs0 _ (Ixw4.out.step (by go_grown))).mono ?_
  rintro e w5 ⟨rfl, hbw5⟩
  have bw5 : Below w4.heap.size w4 w5 := later (by go_grown) hbw5
  have Bw5 : Below w.heap.size w w5 := Bw4.trans (bw5.mono bsw4)
  have sw5 := hbw5.size
  (try simp at sw5)
  have tw5 := bw5.size
  have bsw5 := Bw5.size
  have Xa0w5 := Lib.hid (Xa0w4.out.step bw5)
  clear Xa0w4 qa0w4_0 qa0w4_1 qa0w4_2 qa0w4_3
  have Xxw5 := Lib.hid (Box.of3 hbw5 (w4.heap.size) (by first | omega | (simp; done) | (simp; omega)) (v0 := .int .i64 ix0)  (v1 := .int .i64 iy0)  (v2 := .slice Aw4 zs0.length cw4) (by simp [go_sem]) (by simp [go_sem]) (by simp [go_sem]))
  have ⟨qa0w5_0, qa0w5_1, qa0w5_2, qa0w5_3⟩ := Xa0w5.out.open3
  have ⟨qxw5_0, qxw5_1, qxw5_2, qxw5_3⟩ := Xxw5.out.open3
  have Iuw5 := Lib.hid (Iuw4.out.step bw5)
  clear Iuw4
  have Ixw5 := Lib.hid (Ixw4.out.step bw5)
  clear Ixw4
  go_wp2_with fail
  go_region_held3 (fun w' => w'.cell? ⟨w4.heap.size, 0, none⟩ = some (.int .i64 ix0) ∧ w'.cell? ⟨w4.heap.size, 1, none⟩ = some (.int .i64 iy0) ∧ w'.cell? ⟨w4.heap.size, 2, none⟩ = some (.slice Aw4 zs0.length cw4) ∧ w'.cell? ⟨w.heap.size, 0, none⟩ = some (.int .i64 ix0) ∧ w'.cell? ⟨w.heap.size, 1, none⟩ = some (.int .i64 iy0) ∧ w'.cell? ⟨w.heap.size, 2, none⟩ = some (.slice A0 n0 c0)) (((try dsimp only); (repeat' apply And.intro) <;> (first | (simp only [World.cell?_drew, *]; done) | (simp (disch := (first | omega | (simp; omega))) only [cell_far, cell_old, World.cell?_drew, *]; done))))
    (first
      | (go_at_call 16; ((with_reducible refine (toImage_any _ _ _ _ _ zs0 _ (arg0.out.below (by go_grown)) L0.out hsm0).mono ?_)); rintro e w6 ⟨Aw6, cw6, rfl, Ow6, hbw6⟩; have bw6 : Below w5.heap.size w5 w6 := later (by go_grown) hbw6; have Bw6 : Below w.heap.size w w6 := Bw5.trans (bw6.mono bsw5); have sw6 := hbw6.size; (try simp at sw6); have tw6 := bw6.size; have bsw6 := Bw6.size; have Xa0w6 := Lib.hid (Xa0w5.out.step bw6); clear Xa0w5 qa0w5_0 qa0w5_1 qa0w5_2 qa0w5_3; have Xxw6 := Lib.hid (Xxw5.out.step bw6); clear Xxw5 qxw5_0 qxw5_1 qxw5_2 qxw5_3; have ⟨qa0w6_0, qa0w6_1, qa0w6_2, qa0w6_3⟩ := Xa0w6.out.open3; have ⟨qxw6_0, qxw6_1, qxw6_2, qxw6_3⟩ := Xxw6.out.open3; have Iuw6 := Lib.hid (Iuw5.out.step bw6); clear Iuw5; have Ixw6 := Lib.hid (Ixw5.out.step bw6); clear Ixw5; have Itw6 : Hid (Ints w6 w5.heap.size w6.heap.size _ _) := Own.mono Ow6 (by (try simp); (try omega)) (Nat.le_refl _) (Nat.le_refl _); clear Ow6)
      | (go_at_call 18; ((with_reducible refine (eqImage_same _ _ _ _ _ _ _ _ w3.heap.size w4.heap.size w5.heap.size w6.heap.size zs0 _ (Ixw6.out.step (by go_grown)) (Itw6.out.step (by go_grown))).mono ?_)); rintro e w7 ⟨rfl, hbw7⟩; have bw7 : Below w6.heap.size w6 w7 := later (by go_grown) hbw7; have Bw7 : Below w.heap.size w w7 := Bw6.trans (bw7.mono bsw6); have sw7 := hbw7.size; (try simp at sw7); have tw7 := bw7.size; have bsw7 := Bw7.size; have Xa0w7 := Lib.hid (Xa0w6.out.step bw7); clear Xa0w6 qa0w6_0 qa0w6_1 qa0w6_2 qa0w6_3; have Xxw7 := Lib.hid (Xxw6.out.step bw7); clear Xxw6 qxw6_0 qxw6_1 qxw6_2 qxw6_3; have ⟨qa0w7_0, qa0w7_1, qa0w7_2, qa0w7_3⟩ := Xa0w7.out.open3; have ⟨qxw7_0, qxw7_1, qxw7_2, qxw7_3⟩ := Xxw7.out.open3; have Iuw7 := Lib.hid (Iuw6.out.step bw7); clear Iuw6; have Ixw7 := Lib.hid (Ixw6.out.step bw7); clear Ixw6; have Itw7 := Lib.hid (Itw6.out.step bw7); clear Itw6))
  go_wp2_with fail
  go_ret
  exact ⟨rfl, by go_grown⟩

set_option maxHeartbeats 8000000 in
theorem walkFnExactPixelOf (ix0 iy0 : Int) (A0 : Option Addr) (n0 c0 : Nat) (z0 : List Int) (a1 : Int) (a2 : Int) (w : World) (wix0 : (Lit.int .i64 ix0).wf = true) (wiy0 : (Lit.int .i64 iy0).wf = true) (hr0 : IsRow .i64 w A0 n0 c0 z0) (wa1 : (Lit.int .i64 a1).wf = true) (wa2 : (Lit.int .i64 a2).wf = true) : Calls Try.prog 5 #[.agg #[.int .i64 ix0, .int .i64 iy0, .slice A0 n0 c0], .int .i64 a1, .int .i64 a2] w fun e w' => e = .returned (.bool true) ∧ Below w.heap.size w w' := by
  have Bw : Below w.heap.size w w := Below.refl _ _
  have bsw := Bw.size
  obtain ⟨ha0, hl0, hm0, hq0⟩ := Arg.of_row hr0
  generalize z0.take n0 = zs0 at *
  have arg0 := Lib.hid ha0
  have L0 := Lib.hid hl0
  clear ha0 hl0 hr0 hq0 wix0 wiy0
  clear wa1
  clear wa2
  by_cases hbig0 : 1048576 < (n0 : Int)
  · have hs := szd_big hbig0
    have HS := Lib.hid hs
    clear hs
    go_enter Try.func5, Try.ntmps5
    go_wp2_with fail
    refine (szImage_any _ _ _ _ _ _ _ (by omega) (by omega) (by omega)).mono ?_
    rintro e w1 ⟨rfl, hbw1⟩
    have bw1 : Below w.heap.size w w1 := later (by go_grown) hbw1
    have Bw1 : Below w.heap.size w w1 := Bw.trans (bw1.mono bsw)
    have sw1 := hbw1.size
    (try simp at sw1)
    have tw1 := bw1.size
    have bsw1 := Bw1.size
    have Xa0w1 := Lib.hid (Box.of3 hbw1 (w.heap.size) (by first | omega | (simp; done) | (simp; omega)) (v0 := .int .i64 ix0)  (v1 := .int .i64 iy0)  (v2 := .slice A0 n0 c0) (by simp [go_sem]) (by simp [go_sem]) (by simp [go_sem]))
    have ⟨qa0w1_0, qa0w1_1, qa0w1_2, qa0w1_3⟩ := Xa0w1.out.open3
    rw [HS.out]
    go_wp2_with fail
    go_ret
    exact ⟨rfl, by go_grown⟩
  skip
  have hsm0 : n0 ≤ 1048576 := by omega
  go_enter Try.func5, Try.ntmps5
  go_wp2_with fail
  refine (szImage_any _ _ _ _ _ _ _ (by omega) (by omega) (by omega)).mono ?_
  rintro e w1 ⟨rfl, hbw1⟩
  have bw1 : Below w.heap.size w w1 := later (by go_grown) hbw1
  have Bw1 : Below w.heap.size w w1 := Bw.trans (bw1.mono bsw)
  have sw1 := hbw1.size
  (try simp at sw1)
  have tw1 := bw1.size
  have bsw1 := Bw1.size
  have Xa0w1 := Lib.hid (Box.of3 hbw1 (w.heap.size) (by first | omega | (simp; done) | (simp; omega)) (v0 := .int .i64 ix0)  (v1 := .int .i64 iy0)  (v2 := .slice A0 n0 c0) (by simp [go_sem]) (by simp [go_sem]) (by simp [go_sem]))
  have ⟨qa0w1_0, qa0w1_1, qa0w1_2, qa0w1_3⟩ := Xa0w1.out.open3
  rw [szd_small (by omega)]
  go_wp2_with fail
  refine (toImage_any _ _ _ _ _ zs0 _ (arg0.out.below (by go_grown)) L0.out hsm0).mono ?_
  rintro e w2 ⟨Aw2, cw2, rfl, Ow2, hbw2⟩
  have bw2 : Below w1.heap.size w1 w2 := later (by go_grown) hbw2
  have Bw2 : Below w.heap.size w w2 := Bw1.trans (bw2.mono bsw1)
  have sw2 := hbw2.size
  (try simp at sw2)
  have tw2 := bw2.size
  have bsw2 := Bw2.size
  have Xa0w2 := Lib.hid (Xa0w1.out.step bw2)
  clear Xa0w1 qa0w1_0 qa0w1_1 qa0w1_2 qa0w1_3
  have ⟨qa0w2_0, qa0w2_1, qa0w2_2, qa0w2_3⟩ := Xa0w2.out.open3
  have Iuw2 : Hid (Ints w2 w1.heap.size w2.heap.size _ _) := Own.mono Ow2 (by (try simp); (try omega)) (Nat.le_refl _) (Nat.le_refl _)
  clear Ow2
  go_wp2_with fail
  refine (specPixelOf _ _ _ _ _ w1.heap.size w2.heap.size zs0 _ _ _ (Iuw2.out.step (by go_grown))).mono ?_
  rintro e w3 ⟨rfl, hbw3⟩
  have bw3 : Below w2.heap.size w2 w3 := later (by go_grown) hbw3
  have Bw3 : Below w.heap.size w w3 := Bw2.trans (bw3.mono bsw2)
  have sw3 := hbw3.size
  (try simp at sw3)
  have tw3 := bw3.size
  have bsw3 := Bw3.size
  have Xa0w3 := Lib.hid (Xa0w2.out.step bw3)
  clear Xa0w2 qa0w2_0 qa0w2_1 qa0w2_2 qa0w2_3
  have ⟨qa0w3_0, qa0w3_1, qa0w3_2, qa0w3_3⟩ := Xa0w3.out.open3
  have Iuw3 := Lib.hid (Iuw2.out.step bw3)
  clear Iuw2
  go_wp2_with fail
  refine (toImage_any _ _ _ _ _ zs0 _ (arg0.out.below (by go_grown)) L0.out hsm0).mono ?_
  rintro e w4 ⟨Aw4, cw4, rfl, Ow4, hbw4⟩
  have bw4 : Below w3.heap.size w3 w4 := later (by go_grown) hbw4
  have Bw4 : Below w.heap.size w w4 := Bw3.trans (bw4.mono bsw3)
  have sw4 := hbw4.size
  (try simp at sw4)
  have tw4 := bw4.size
  have bsw4 := Bw4.size
  have Xa0w4 := Lib.hid (Xa0w3.out.step bw4)
  clear Xa0w3 qa0w3_0 qa0w3_1 qa0w3_2 qa0w3_3
  have ⟨qa0w4_0, qa0w4_1, qa0w4_2, qa0w4_3⟩ := Xa0w4.out.open3
  have Iuw4 := Lib.hid (Iuw3.out.step bw4)
  clear Iuw3
  have Ixw4 : Hid (Ints w4 w3.heap.size w4.heap.size _ _) := Own.mono Ow4 (by (try simp); (try omega)) (Nat.le_refl _) (Nat.le_refl _)
  clear Ow4
  go_wp2_with fail
  refine (implPixelOf _ _ _ _ _ w3.heap.size w4.heap.size zs0 _ _ _ (Ixw4.out.step (by go_grown))).mono ?_
  rintro e w5 ⟨rfl, hbw5⟩
  have bw5 : Below w4.heap.size w4 w5 := later (by go_grown) hbw5
  have Bw5 : Below w.heap.size w w5 := Bw4.trans (bw5.mono bsw4)
  have sw5 := hbw5.size
  (try simp at sw5)
  have tw5 := bw5.size
  have bsw5 := Bw5.size
  have Xa0w5 := Lib.hid (Xa0w4.out.step bw5)
  clear Xa0w4 qa0w4_0 qa0w4_1 qa0w4_2 qa0w4_3
  have Xxw5 := Lib.hid (Box.of3 hbw5 (w4.heap.size) (by first | omega | (simp; done) | (simp; omega)) (v0 := .int .i64 ix0)  (v1 := .int .i64 iy0)  (v2 := .slice Aw4 zs0.length cw4) (by simp [go_sem]) (by simp [go_sem]) (by simp [go_sem]))
  have ⟨qa0w5_0, qa0w5_1, qa0w5_2, qa0w5_3⟩ := Xa0w5.out.open3
  have ⟨qxw5_0, qxw5_1, qxw5_2, qxw5_3⟩ := Xxw5.out.open3
  have Iuw5 := Lib.hid (Iuw4.out.step bw5)
  clear Iuw4
  have Ixw5 := Lib.hid (Ixw4.out.step bw5)
  clear Ixw4
  go_wp2_with fail
  go_region_held3 (fun w' => w'.cell? ⟨w4.heap.size, 0, none⟩ = some (.int .i64 ix0) ∧ w'.cell? ⟨w4.heap.size, 1, none⟩ = some (.int .i64 iy0) ∧ w'.cell? ⟨w4.heap.size, 2, none⟩ = some (.slice Aw4 zs0.length cw4) ∧ w'.cell? ⟨w.heap.size, 0, none⟩ = some (.int .i64 ix0) ∧ w'.cell? ⟨w.heap.size, 1, none⟩ = some (.int .i64 iy0) ∧ w'.cell? ⟨w.heap.size, 2, none⟩ = some (.slice A0 n0 c0)) (((try dsimp only); (repeat' apply And.intro) <;> (first | (simp only [World.cell?_drew, *]; done) | (simp (disch := (first | omega | (simp; omega))) only [cell_far, cell_old, World.cell?_drew, *]; done))))
    (first
      | (go_at_call 16; ((with_reducible refine (toImage_any _ _ _ _ _ zs0 _ (arg0.out.below (by go_grown)) L0.out hsm0).mono ?_)); rintro e w6 ⟨Aw6, cw6, rfl, Ow6, hbw6⟩; have bw6 : Below w5.heap.size w5 w6 := later (by go_grown) hbw6; have Bw6 : Below w.heap.size w w6 := Bw5.trans (bw6.mono bsw5); have sw6 := hbw6.size; (try simp at sw6); have tw6 := bw6.size; have bsw6 := Bw6.size; have Xa0w6 := Lib.hid (Xa0w5.out.step bw6); clear Xa0w5 qa0w5_0 qa0w5_1 qa0w5_2 qa0w5_3; have Xxw6 := Lib.hid (Xxw5.out.step bw6); clear Xxw5 qxw5_0 qxw5_1 qxw5_2 qxw5_3; have ⟨qa0w6_0, qa0w6_1, qa0w6_2, qa0w6_3⟩ := Xa0w6.out.open3; have ⟨qxw6_0, qxw6_1, qxw6_2, qxw6_3⟩ := Xxw6.out.open3; have Iuw6 := Lib.hid (Iuw5.out.step bw6); clear Iuw5; have Ixw6 := Lib.hid (Ixw5.out.step bw6); clear Ixw5; have Itw6 : Hid (Ints w6 w5.heap.size w6.heap.size _ _) := Own.mono Ow6 (by (try simp); (try omega)) (Nat.le_refl _) (Nat.le_refl _); clear Ow6)
      | (go_at_call 18; ((with_reducible refine (eqImage_same _ _ _ _ _ _ _ _ w3.heap.size w4.heap.size w5.heap.size w6.heap.size zs0 _ (Ixw6.out.step (by go_grown)) (Itw6.out.step (by go_grown))).mono ?_)); rintro e w7 ⟨rfl, hbw7⟩; have bw7 : Below w6.heap.size w6 w7 := later (by go_grown) hbw7; have Bw7 : Below w.heap.size w w7 := Bw6.trans (bw7.mono bsw6); have sw7 := hbw7.size; (try simp at sw7); have tw7 := bw7.size; have bsw7 := Bw7.size; have Xa0w7 := Lib.hid (Xa0w6.out.step bw7); clear Xa0w6 qa0w6_0 qa0w6_1 qa0w6_2 qa0w6_3; have Xxw7 := Lib.hid (Xxw6.out.step bw7); clear Xxw6 qxw6_0 qxw6_1 qxw6_2 qxw6_3; have ⟨qa0w7_0, qa0w7_1, qa0w7_2, qa0w7_3⟩ := Xa0w7.out.open3; have ⟨qxw7_0, qxw7_1, qxw7_2, qxw7_3⟩ := Xxw7.out.open3; have Iuw7 := Lib.hid (Iuw6.out.step bw7); clear Iuw6; have Ixw7 := Lib.hid (Ixw6.out.step bw7); clear Ixw6; have Itw7 := Lib.hid (Itw6.out.step bw7); clear Itw6))
  go_wp2_with fail
  go_ret
  exact ⟨rfl, by go_grown⟩

set_option maxHeartbeats 8000000 in
theorem walkFnExactSameImage (ix0 iy0 : Int) (A0 : Option Addr) (n0 c0 : Nat) (z0 : List Int) (ix1 iy1 : Int) (A1 : Option Addr) (n1 c1 : Nat) (z1 : List Int) (w : World) (wix0 : (Lit.int .i64 ix0).wf = true) (wiy0 : (Lit.int .i64 iy0).wf = true) (hr0 : IsRow .i64 w A0 n0 c0 z0) (wix1 : (Lit.int .i64 ix1).wf = true) (wiy1 : (Lit.int .i64 iy1).wf = true) (hr1 : IsRow .i64 w A1 n1 c1 z1) : Calls Try.prog 4 #[.agg #[.int .i64 ix0, .int .i64 iy0, .slice A0 n0 c0], .agg #[.int .i64 ix1, .int .i64 iy1, .slice A1 n1 c1]] w fun e w' => e = .returned (.bool true) ∧ Below w.heap.size w w' := by
  have Bw : Below w.heap.size w w := Below.refl _ _
  have bsw := Bw.size
  obtain ⟨ha0, hl0, hm0, hq0⟩ := Arg.of_row hr0
  generalize z0.take n0 = zs0 at *
  have arg0 := Lib.hid ha0
  have L0 := Lib.hid hl0
  clear ha0 hl0 hr0 hq0 wix0 wiy0
  obtain ⟨ha1, hl1, hm1, hq1⟩ := Arg.of_row hr1
  generalize z1.take n1 = zs1 at *
  have arg1 := Lib.hid ha1
  have L1 := Lib.hid hl1
  clear ha1 hl1 hr1 hq1 wix1 wiy1
  by_cases hbig0 : 1048576 < (n0 : Int)
  · have hs := szd_big hbig0
    have HS := Lib.hid hs
    clear hs
    go_enter Try.func4, Try.ntmps4
    go_wp2_with fail
    refine (szImage_any _ _ _ _ _ _ _ (by omega) (by omega) (by omega)).mono ?_
    rintro e w1 ⟨rfl, hbw1⟩
    have bw1 : Below w.heap.size w w1 := later (by go_grown) hbw1
    have Bw1 : Below w.heap.size w w1 := Bw.trans (bw1.mono bsw)
    have sw1 := hbw1.size
    (try simp at sw1)
    have tw1 := bw1.size
    have bsw1 := Bw1.size
    have Xa0w1 := Lib.hid (Box.of3 hbw1 (w.heap.size) (by first | omega | (simp; done) | (simp; omega)) (v0 := .int .i64 ix0)  (v1 := .int .i64 iy0)  (v2 := .slice A0 n0 c0) (by simp [go_sem]) (by simp [go_sem]) (by simp [go_sem]))
    have Xa1w1 := Lib.hid (Box.of3 hbw1 (w.heap.size + 1) (by first | omega | (simp; done) | (simp; omega)) (v0 := .int .i64 ix1)  (v1 := .int .i64 iy1)  (v2 := .slice A1 n1 c1) (by simp [go_sem]) (by simp [go_sem]) (by simp [go_sem]))
    have ⟨qa0w1_0, qa0w1_1, qa0w1_2, qa0w1_3⟩ := Xa0w1.out.open3
    have ⟨qa1w1_0, qa1w1_1, qa1w1_2, qa1w1_3⟩ := Xa1w1.out.open3
    rw [HS.out]
    go_wp2_with fail
    go_ret
    exact ⟨rfl, by go_grown⟩
  by_cases hbig1 : 1048576 - (n0 : Int) < (n1 : Int)
  · have hs := szd_big hbig1
    have HS := Lib.hid hs
    clear hs
    go_enter Try.func4, Try.ntmps4
    go_wp2_with fail
    refine (szImage_any _ _ _ _ _ _ _ (by omega) (by omega) (by omega)).mono ?_
    rintro e w1 ⟨rfl, hbw1⟩
    have bw1 : Below w.heap.size w w1 := later (by go_grown) hbw1
    have Bw1 : Below w.heap.size w w1 := Bw.trans (bw1.mono bsw)
    have sw1 := hbw1.size
    (try simp at sw1)
    have tw1 := bw1.size
    have bsw1 := Bw1.size
    have Xa0w1 := Lib.hid (Box.of3 hbw1 (w.heap.size) (by first | omega | (simp; done) | (simp; omega)) (v0 := .int .i64 ix0)  (v1 := .int .i64 iy0)  (v2 := .slice A0 n0 c0) (by simp [go_sem]) (by simp [go_sem]) (by simp [go_sem]))
    have Xa1w1 := Lib.hid (Box.of3 hbw1 (w.heap.size + 1) (by first | omega | (simp; done) | (simp; omega)) (v0 := .int .i64 ix1)  (v1 := .int .i64 iy1)  (v2 := .slice A1 n1 c1) (by simp [go_sem]) (by simp [go_sem]) (by simp [go_sem]))
    have ⟨qa0w1_0, qa0w1_1, qa0w1_2, qa0w1_3⟩ := Xa0w1.out.open3
    have ⟨qa1w1_0, qa1w1_1, qa1w1_2, qa1w1_3⟩ := Xa1w1.out.open3
    rw [szd_small (by omega)]
    go_wp2_with fail
    refine (szImage_any _ _ _ _ _ _ _ (by omega) (by omega) (by omega)).mono ?_
    rintro e w2 ⟨rfl, hbw2⟩
    have bw2 : Below w1.heap.size w1 w2 := later (by go_grown) hbw2
    have Bw2 : Below w.heap.size w w2 := Bw1.trans (bw2.mono bsw1)
    have sw2 := hbw2.size
    (try simp at sw2)
    have tw2 := bw2.size
    have bsw2 := Bw2.size
    have Xa0w2 := Lib.hid (Xa0w1.out.step bw2)
    clear Xa0w1 qa0w1_0 qa0w1_1 qa0w1_2 qa0w1_3
    have Xa1w2 := Lib.hid (Xa1w1.out.step bw2)
    clear Xa1w1 qa1w1_0 qa1w1_1 qa1w1_2 qa1w1_3
    have ⟨qa0w2_0, qa0w2_1, qa0w2_2, qa0w2_3⟩ := Xa0w2.out.open3
    have ⟨qa1w2_0, qa1w2_1, qa1w2_2, qa1w2_3⟩ := Xa1w2.out.open3
    rw [HS.out]
    go_wp2_with fail
    go_ret
    exact ⟨rfl, by go_grown⟩
  skip
  have hsm0 : n0 ≤ 1048576 := by omega
  have hsm1 : n1 ≤ 1048576 := by omega
  go_enter Try.func4, Try.ntmps4
  go_wp2_with fail
  refine (szImage_any _ _ _ _ _ _ _ (by omega) (by omega) (by omega)).mono ?_
  rintro e w1 ⟨rfl, hbw1⟩
  have bw1 : Below w.heap.size w w1 := later (by go_grown) hbw1
  have Bw1 : Below w.heap.size w w1 := Bw.trans (bw1.mono bsw)
  have sw1 := hbw1.size
  (try simp at sw1)
  have tw1 := bw1.size
  have bsw1 := Bw1.size
  have Xa0w1 := Lib.hid (Box.of3 hbw1 (w.heap.size) (by first | omega | (simp; done) | (simp; omega)) (v0 := .int .i64 ix0)  (v1 := .int .i64 iy0)  (v2 := .slice A0 n0 c0) (by simp [go_sem]) (by simp [go_sem]) (by simp [go_sem]))
  have Xa1w1 := Lib.hid (Box.of3 hbw1 (w.heap.size + 1) (by first | omega | (simp; done) | (simp; omega)) (v0 := .int .i64 ix1)  (v1 := .int .i64 iy1)  (v2 := .slice A1 n1 c1) (by simp [go_sem]) (by simp [go_sem]) (by simp [go_sem]))
  have ⟨qa0w1_0, qa0w1_1, qa0w1_2, qa0w1_3⟩ := Xa0w1.out.open3
  have ⟨qa1w1_0, qa1w1_1, qa1w1_2, qa1w1_3⟩ := Xa1w1.out.open3
  rw [szd_small (by omega)]
  go_wp2_with fail
  refine (szImage_any _ _ _ _ _ _ _ (by omega) (by omega) (by omega)).mono ?_
  rintro e w2 ⟨rfl, hbw2⟩
  have bw2 : Below w1.heap.size w1 w2 := later (by go_grown) hbw2
  have Bw2 : Below w.heap.size w w2 := Bw1.trans (bw2.mono bsw1)
  have sw2 := hbw2.size
  (try simp at sw2)
  have tw2 := bw2.size
  have bsw2 := Bw2.size
  have Xa0w2 := Lib.hid (Xa0w1.out.step bw2)
  clear Xa0w1 qa0w1_0 qa0w1_1 qa0w1_2 qa0w1_3
  have Xa1w2 := Lib.hid (Xa1w1.out.step bw2)
  clear Xa1w1 qa1w1_0 qa1w1_1 qa1w1_2 qa1w1_3
  have ⟨qa0w2_0, qa0w2_1, qa0w2_2, qa0w2_3⟩ := Xa0w2.out.open3
  have ⟨qa1w2_0, qa1w2_1, qa1w2_2, qa1w2_3⟩ := Xa1w2.out.open3
  rw [szd_small (by omega)]
  go_wp2_with fail
  go_region_held3 (fun w' => w'.cell? ⟨w.heap.size, 0, none⟩ = some (.int .i64 ix0) ∧ w'.cell? ⟨w.heap.size, 1, none⟩ = some (.int .i64 iy0) ∧ w'.cell? ⟨w.heap.size, 2, none⟩ = some (.slice A0 n0 c0) ∧ w'.cell? ⟨w.heap.size + 1, 0, none⟩ = some (.int .i64 ix1) ∧ w'.cell? ⟨w.heap.size + 1, 1, none⟩ = some (.int .i64 iy1) ∧ w'.cell? ⟨w.heap.size + 1, 2, none⟩ = some (.slice A1 n1 c1)) (((try dsimp only); (repeat' apply And.intro) <;> (first | (simp only [World.cell?_drew, *]; done) | (simp (disch := (first | omega | (simp; omega))) only [cell_far, cell_old, World.cell?_drew, *]; done))))
    (first
      | (go_at_call 16; ((with_reducible refine (toImage_any _ _ _ _ _ zs0 _ (arg0.out.below (by go_grown)) L0.out hsm0).mono ?_)); rintro e w3 ⟨Aw3, cw3, rfl, Ow3, hbw3⟩; have bw3 : Below w2.heap.size w2 w3 := later (by go_grown) hbw3; have Bw3 : Below w.heap.size w w3 := Bw2.trans (bw3.mono bsw2); have sw3 := hbw3.size; (try simp at sw3); have tw3 := bw3.size; have bsw3 := Bw3.size; have Xa0w3 := Lib.hid (Xa0w2.out.step bw3); clear Xa0w2 qa0w2_0 qa0w2_1 qa0w2_2 qa0w2_3; have Xa1w3 := Lib.hid (Xa1w2.out.step bw3); clear Xa1w2 qa1w2_0 qa1w2_1 qa1w2_2 qa1w2_3; have ⟨qa0w3_0, qa0w3_1, qa0w3_2, qa0w3_3⟩ := Xa0w3.out.open3; have ⟨qa1w3_0, qa1w3_1, qa1w3_2, qa1w3_3⟩ := Xa1w3.out.open3; have Iuw3 : Hid (Ints w3 w2.heap.size w3.heap.size _ _) := Own.mono Ow3 (by (try simp); (try omega)) (Nat.le_refl _) (Nat.le_refl _); clear Ow3)
      | (go_at_call 16; ((with_reducible refine (toImage_any _ _ _ _ _ zs1 _ (arg1.out.below (by go_grown)) L1.out hsm1).mono ?_)); rintro e w4 ⟨Aw4, cw4, rfl, Ow4, hbw4⟩; have bw4 : Below w3.heap.size w3 w4 := later (by go_grown) hbw4; have Bw4 : Below w.heap.size w w4 := Bw3.trans (bw4.mono bsw3); have sw4 := hbw4.size; (try simp at sw4); have tw4 := bw4.size; have bsw4 := Bw4.size; have Xa0w4 := Lib.hid (Xa0w3.out.step bw4); clear Xa0w3 qa0w3_0 qa0w3_1 qa0w3_2 qa0w3_3; have Xa1w4 := Lib.hid (Xa1w3.out.step bw4); clear Xa1w3 qa1w3_0 qa1w3_1 qa1w3_2 qa1w3_3; have ⟨qa0w4_0, qa0w4_1, qa0w4_2, qa0w4_3⟩ := Xa0w4.out.open3; have ⟨qa1w4_0, qa1w4_1, qa1w4_2, qa1w4_3⟩ := Xa1w4.out.open3; have Iuw4 := Lib.hid (Iuw3.out.step bw4); clear Iuw3; have Ivw4 : Hid (Ints w4 w3.heap.size w4.heap.size _ _) := Own.mono Ow4 (by (try simp); (try omega)) (Nat.le_refl _) (Nat.le_refl _); clear Ow4)
      | (go_at_call 19; ((with_reducible refine (specSameImage _ _ _ _ _ _ _ _ _ _ w2.heap.size w3.heap.size w3.heap.size w4.heap.size zs0 zs1 _ (Iuw4.out.step (by go_grown)) (Ivw4.out.step (by go_grown))).mono ?_)); rintro e w5 ⟨rfl, hbw5⟩; have bw5 : Below w4.heap.size w4 w5 := later (by go_grown) hbw5; have Bw5 : Below w.heap.size w w5 := Bw4.trans (bw5.mono bsw4); have sw5 := hbw5.size; (try simp at sw5); have tw5 := bw5.size; have bsw5 := Bw5.size; have Xa0w5 := Lib.hid (Xa0w4.out.step bw5); clear Xa0w4 qa0w4_0 qa0w4_1 qa0w4_2 qa0w4_3; have Xa1w5 := Lib.hid (Xa1w4.out.step bw5); clear Xa1w4 qa1w4_0 qa1w4_1 qa1w4_2 qa1w4_3; have ⟨qa0w5_0, qa0w5_1, qa0w5_2, qa0w5_3⟩ := Xa0w5.out.open3; have ⟨qa1w5_0, qa1w5_1, qa1w5_2, qa1w5_3⟩ := Xa1w5.out.open3; have Iuw5 := Lib.hid (Iuw4.out.step bw5); clear Iuw4; have Ivw5 := Lib.hid (Ivw4.out.step bw5); clear Ivw4))
  go_wp2_with fail
  refine (toImage_any _ _ _ _ _ zs0 _ (arg0.out.below (by go_grown)) L0.out hsm0).mono ?_
  rintro e w6 ⟨Aw6, cw6, rfl, Ow6, hbw6⟩
  have bw6 : Below w5.heap.size w5 w6 := later (by go_grown) hbw6
  have Bw6 : Below w.heap.size w w6 := Bw5.trans (bw6.mono bsw5)
  have sw6 := hbw6.size
  (try simp at sw6)
  have tw6 := bw6.size
  have bsw6 := Bw6.size
  have Xa0w6 := Lib.hid (Xa0w5.out.step bw6)
  clear Xa0w5 qa0w5_0 qa0w5_1 qa0w5_2 qa0w5_3
  have Xa1w6 := Lib.hid (Xa1w5.out.step bw6)
  clear Xa1w5 qa1w5_0 qa1w5_1 qa1w5_2 qa1w5_3
  have ⟨qa0w6_0, qa0w6_1, qa0w6_2, qa0w6_3⟩ := Xa0w6.out.open3
  have ⟨qa1w6_0, qa1w6_1, qa1w6_2, qa1w6_3⟩ := Xa1w6.out.open3
  have Iuw6 := Lib.hid (Iuw5.out.step bw6)
  clear Iuw5
  have Ivw6 := Lib.hid (Ivw5.out.step bw6)
  clear Ivw5
  have Ixw6 : Hid (Ints w6 w5.heap.size w6.heap.size _ _) := Own.mono Ow6 (by (try simp); (try omega)) (Nat.le_refl _) (Nat.le_refl _)
  clear Ow6
  go_wp2_with fail
  refine (toImage_any _ _ _ _ _ zs1 _ (arg1.out.below (by go_grown)) L1.out hsm1).mono ?_
  rintro e w7 ⟨Aw7, cw7, rfl, Ow7, hbw7⟩
  have bw7 : Below w6.heap.size w6 w7 := later (by go_grown) hbw7
  have Bw7 : Below w.heap.size w w7 := Bw6.trans (bw7.mono bsw6)
  have sw7 := hbw7.size
  (try simp at sw7)
  have tw7 := bw7.size
  have bsw7 := Bw7.size
  have Xa0w7 := Lib.hid (Xa0w6.out.step bw7)
  clear Xa0w6 qa0w6_0 qa0w6_1 qa0w6_2 qa0w6_3
  have Xa1w7 := Lib.hid (Xa1w6.out.step bw7)
  clear Xa1w6 qa1w6_0 qa1w6_1 qa1w6_2 qa1w6_3
  have Xxw7 := Lib.hid (Box.of3 hbw7 (w6.heap.size) (by first | omega | (simp; done) | (simp; omega)) (v0 := .int .i64 ix0)  (v1 := .int .i64 iy0)  (v2 := .slice Aw6 zs0.length cw6) (by simp [go_sem]) (by simp [go_sem]) (by simp [go_sem]))
  have ⟨qa0w7_0, qa0w7_1, qa0w7_2, qa0w7_3⟩ := Xa0w7.out.open3
  have ⟨qa1w7_0, qa1w7_1, qa1w7_2, qa1w7_3⟩ := Xa1w7.out.open3
  have ⟨qxw7_0, qxw7_1, qxw7_2, qxw7_3⟩ := Xxw7.out.open3
  have Iuw7 := Lib.hid (Iuw6.out.step bw7)
  clear Iuw6
  have Ivw7 := Lib.hid (Ivw6.out.step bw7)
  clear Ivw6
  have Ixw7 := Lib.hid (Ixw6.out.step bw7)
  clear Ixw6
  have Iyw7 : Hid (Ints w7 w6.heap.size w7.heap.size _ _) := Own.mono Ow7 (by (try simp); (try omega)) (Nat.le_refl _) (Nat.le_refl _)
  clear Ow7
  go_wp2_with fail
  refine (implSameImage _ _ _ _ _ _ _ _ _ _ w5.heap.size w6.heap.size w6.heap.size w7.heap.size zs0 zs1 _ (Ixw7.out.step (by go_grown)) (Iyw7.out.step (by go_grown))).mono ?_
  rintro e w8 ⟨rfl, hbw8⟩
  have bw8 : Below w7.heap.size w7 w8 := later (by go_grown) hbw8
  have Bw8 : Below w.heap.size w w8 := Bw7.trans (bw8.mono bsw7)
  have sw8 := hbw8.size
  (try simp at sw8)
  have tw8 := bw8.size
  have bsw8 := Bw8.size
  have Xa0w8 := Lib.hid (Xa0w7.out.step bw8)
  clear Xa0w7 qa0w7_0 qa0w7_1 qa0w7_2 qa0w7_3
  have Xa1w8 := Lib.hid (Xa1w7.out.step bw8)
  clear Xa1w7 qa1w7_0 qa1w7_1 qa1w7_2 qa1w7_3
  have Xxw8 := Lib.hid (Xxw7.out.step bw8)
  clear Xxw7 qxw7_0 qxw7_1 qxw7_2 qxw7_3
  have Xyw8 := Lib.hid (Box.of3 hbw8 (w7.heap.size) (by first | omega | (simp; done) | (simp; omega)) (v0 := .int .i64 ix1)  (v1 := .int .i64 iy1)  (v2 := .slice Aw7 zs1.length cw7) (by simp [go_sem]) (by simp [go_sem]) (by simp [go_sem]))
  have ⟨qa0w8_0, qa0w8_1, qa0w8_2, qa0w8_3⟩ := Xa0w8.out.open3
  have ⟨qa1w8_0, qa1w8_1, qa1w8_2, qa1w8_3⟩ := Xa1w8.out.open3
  have ⟨qxw8_0, qxw8_1, qxw8_2, qxw8_3⟩ := Xxw8.out.open3
  have ⟨qyw8_0, qyw8_1, qyw8_2, qyw8_3⟩ := Xyw8.out.open3
  have Iuw8 := Lib.hid (Iuw7.out.step bw8)
  clear Iuw7
  have Ivw8 := Lib.hid (Ivw7.out.step bw8)
  clear Ivw7
  have Ixw8 := Lib.hid (Ixw7.out.step bw8)
  clear Ixw7
  have Iyw8 := Lib.hid (Iyw7.out.step bw8)
  clear Iyw7
  go_wp2_with fail
  go_region_held3 (fun w' => w'.cell? ⟨w6.heap.size, 0, none⟩ = some (.int .i64 ix0) ∧ w'.cell? ⟨w6.heap.size, 1, none⟩ = some (.int .i64 iy0) ∧ w'.cell? ⟨w6.heap.size, 2, none⟩ = some (.slice Aw6 zs0.length cw6) ∧ w'.cell? ⟨w.heap.size, 0, none⟩ = some (.int .i64 ix0) ∧ w'.cell? ⟨w.heap.size, 1, none⟩ = some (.int .i64 iy0) ∧ w'.cell? ⟨w.heap.size, 2, none⟩ = some (.slice A0 n0 c0)) (((try dsimp only); (repeat' apply And.intro) <;> (first | (simp only [World.cell?_drew, *]; done) | (simp (disch := (first | omega | (simp; omega))) only [cell_far, cell_old, World.cell?_drew, *]; done))))
    (first
      | (go_at_call 16; ((with_reducible refine (toImage_any _ _ _ _ _ zs0 _ (arg0.out.below (by go_grown)) L0.out hsm0).mono ?_)); rintro e w9 ⟨Aw9, cw9, rfl, Ow9, hbw9⟩; have bw9 : Below w8.heap.size w8 w9 := later (by go_grown) hbw9; have Bw9 : Below w.heap.size w w9 := Bw8.trans (bw9.mono bsw8); have sw9 := hbw9.size; (try simp at sw9); have tw9 := bw9.size; have bsw9 := Bw9.size; have Xa0w9 := Lib.hid (Xa0w8.out.step bw9); clear Xa0w8 qa0w8_0 qa0w8_1 qa0w8_2 qa0w8_3; have Xa1w9 := Lib.hid (Xa1w8.out.step bw9); clear Xa1w8 qa1w8_0 qa1w8_1 qa1w8_2 qa1w8_3; have Xxw9 := Lib.hid (Xxw8.out.step bw9); clear Xxw8 qxw8_0 qxw8_1 qxw8_2 qxw8_3; have Xyw9 := Lib.hid (Xyw8.out.step bw9); clear Xyw8 qyw8_0 qyw8_1 qyw8_2 qyw8_3; have ⟨qa0w9_0, qa0w9_1, qa0w9_2, qa0w9_3⟩ := Xa0w9.out.open3; have ⟨qa1w9_0, qa1w9_1, qa1w9_2, qa1w9_3⟩ := Xa1w9.out.open3; have ⟨qxw9_0, qxw9_1, qxw9_2, qxw9_3⟩ := Xxw9.out.open3; have ⟨qyw9_0, qyw9_1, qyw9_2, qyw9_3⟩ := Xyw9.out.open3; have Iuw9 := Lib.hid (Iuw8.out.step bw9); clear Iuw8; have Ivw9 := Lib.hid (Ivw8.out.step bw9); clear Ivw8; have Ixw9 := Lib.hid (Ixw8.out.step bw9); clear Ixw8; have Iyw9 := Lib.hid (Iyw8.out.step bw9); clear Iyw8; have Itw9 : Hid (Ints w9 w8.heap.size w9.heap.size _ _) := Own.mono Ow9 (by (try simp); (try omega)) (Nat.le_refl _) (Nat.le_refl _); clear Ow9)
      | (go_at_call 18; ((with_reducible refine (eqImage_same _ _ _ _ _ _ _ _ w5.heap.size w6.heap.size w8.heap.size w9.heap.size zs0 _ (Ixw9.out.step (by go_grown)) (Itw9.out.step (by go_grown))).mono ?_)); rintro e w10 ⟨rfl, hbw10⟩; have bw10 : Below w9.heap.size w9 w10 := later (by go_grown) hbw10; have Bw10 : Below w.heap.size w w10 := Bw9.trans (bw10.mono bsw9); have sw10 := hbw10.size; (try simp at sw10); have tw10 := bw10.size; have bsw10 := Bw10.size; have Xa0w10 := Lib.hid (Xa0w9.out.step bw10); clear Xa0w9 qa0w9_0 qa0w9_1 qa0w9_2 qa0w9_3; have Xa1w10 := Lib.hid (Xa1w9.out.step bw10); clear Xa1w9 qa1w9_0 qa1w9_1 qa1w9_2 qa1w9_3; have Xxw10 := Lib.hid (Xxw9.out.step bw10); clear Xxw9 qxw9_0 qxw9_1 qxw9_2 qxw9_3; have Xyw10 := Lib.hid (Xyw9.out.step bw10); clear Xyw9 qyw9_0 qyw9_1 qyw9_2 qyw9_3; have ⟨qa0w10_0, qa0w10_1, qa0w10_2, qa0w10_3⟩ := Xa0w10.out.open3; have ⟨qa1w10_0, qa1w10_1, qa1w10_2, qa1w10_3⟩ := Xa1w10.out.open3; have ⟨qxw10_0, qxw10_1, qxw10_2, qxw10_3⟩ := Xxw10.out.open3; have ⟨qyw10_0, qyw10_1, qyw10_2, qyw10_3⟩ := Xyw10.out.open3; have Iuw10 := Lib.hid (Iuw9.out.step bw10); clear Iuw9; have Ivw10 := Lib.hid (Ivw9.out.step bw10); clear Ivw9; have Ixw10 := Lib.hid (Ixw9.out.step bw10); clear Ixw9; have Iyw10 := Lib.hid (Iyw9.out.step bw10); clear Iyw9; have Itw10 := Lib.hid (Itw9.out.step bw10); clear Itw9))
  go_wp2_with fail
  go_region_held3 (fun w' => w'.cell? ⟨w7.heap.size, 0, none⟩ = some (.int .i64 ix1) ∧ w'.cell? ⟨w7.heap.size, 1, none⟩ = some (.int .i64 iy1) ∧ w'.cell? ⟨w7.heap.size, 2, none⟩ = some (.slice Aw7 zs1.length cw7) ∧ w'.cell? ⟨w.heap.size + 1, 0, none⟩ = some (.int .i64 ix1) ∧ w'.cell? ⟨w.heap.size + 1, 1, none⟩ = some (.int .i64 iy1) ∧ w'.cell? ⟨w.heap.size + 1, 2, none⟩ = some (.slice A1 n1 c1)) (((try dsimp only); (repeat' apply And.intro) <;> (first | (simp only [World.cell?_drew, *]; done) | (simp (disch := (first | omega | (simp; omega))) only [cell_far, cell_old, World.cell?_drew, *]; done))))
    (first
      | (go_at_call 16; ((with_reducible refine (toImage_any _ _ _ _ _ zs1 _ (arg1.out.below (by go_grown)) L1.out hsm1).mono ?_)); rintro e w11 ⟨Aw11, cw11, rfl, Ow11, hbw11⟩; have bw11 : Below w10.heap.size w10 w11 := later (by go_grown) hbw11; have Bw11 : Below w.heap.size w w11 := Bw10.trans (bw11.mono bsw10); have sw11 := hbw11.size; (try simp at sw11); have tw11 := bw11.size; have bsw11 := Bw11.size; have Xa0w11 := Lib.hid (Xa0w10.out.step bw11); clear Xa0w10 qa0w10_0 qa0w10_1 qa0w10_2 qa0w10_3; have Xa1w11 := Lib.hid (Xa1w10.out.step bw11); clear Xa1w10 qa1w10_0 qa1w10_1 qa1w10_2 qa1w10_3; have Xxw11 := Lib.hid (Xxw10.out.step bw11); clear Xxw10 qxw10_0 qxw10_1 qxw10_2 qxw10_3; have Xyw11 := Lib.hid (Xyw10.out.step bw11); clear Xyw10 qyw10_0 qyw10_1 qyw10_2 qyw10_3; have ⟨qa0w11_0, qa0w11_1, qa0w11_2, qa0w11_3⟩ := Xa0w11.out.open3; have ⟨qa1w11_0, qa1w11_1, qa1w11_2, qa1w11_3⟩ := Xa1w11.out.open3; have ⟨qxw11_0, qxw11_1, qxw11_2, qxw11_3⟩ := Xxw11.out.open3; have ⟨qyw11_0, qyw11_1, qyw11_2, qyw11_3⟩ := Xyw11.out.open3; have Iuw11 := Lib.hid (Iuw10.out.step bw11); clear Iuw10; have Ivw11 := Lib.hid (Ivw10.out.step bw11); clear Ivw10; have Ixw11 := Lib.hid (Ixw10.out.step bw11); clear Ixw10; have Iyw11 := Lib.hid (Iyw10.out.step bw11); clear Iyw10; have Itw11 := Lib.hid (Itw10.out.step bw11); clear Itw10; have Itw11 : Hid (Ints w11 w10.heap.size w11.heap.size _ _) := Own.mono Ow11 (by (try simp); (try omega)) (Nat.le_refl _) (Nat.le_refl _); clear Ow11)
      | (go_at_call 18; ((with_reducible refine (eqImage_same _ _ _ _ _ _ _ _ w6.heap.size w7.heap.size w10.heap.size w11.heap.size zs1 _ (Iyw11.out.step (by go_grown)) (Itw11.out.step (by go_grown))).mono ?_)); rintro e w12 ⟨rfl, hbw12⟩; have bw12 : Below w11.heap.size w11 w12 := later (by go_grown) hbw12; have Bw12 : Below w.heap.size w w12 := Bw11.trans (bw12.mono bsw11); have sw12 := hbw12.size; (try simp at sw12); have tw12 := bw12.size; have bsw12 := Bw12.size; have Xa0w12 := Lib.hid (Xa0w11.out.step bw12); clear Xa0w11 qa0w11_0 qa0w11_1 qa0w11_2 qa0w11_3; have Xa1w12 := Lib.hid (Xa1w11.out.step bw12); clear Xa1w11 qa1w11_0 qa1w11_1 qa1w11_2 qa1w11_3; have Xxw12 := Lib.hid (Xxw11.out.step bw12); clear Xxw11 qxw11_0 qxw11_1 qxw11_2 qxw11_3; have Xyw12 := Lib.hid (Xyw11.out.step bw12); clear Xyw11 qyw11_0 qyw11_1 qyw11_2 qyw11_3; have ⟨qa0w12_0, qa0w12_1, qa0w12_2, qa0w12_3⟩ := Xa0w12.out.open3; have ⟨qa1w12_0, qa1w12_1, qa1w12_2, qa1w12_3⟩ := Xa1w12.out.open3; have ⟨qxw12_0, qxw12_1, qxw12_2, qxw12_3⟩ := Xxw12.out.open3; have ⟨qyw12_0, qyw12_1, qyw12_2, qyw12_3⟩ := Xyw12.out.open3; have Iuw12 := Lib.hid (Iuw11.out.step bw12); clear Iuw11; have Ivw12 := Lib.hid (Ivw11.out.step bw12); clear Ivw11; have Ixw12 := Lib.hid (Ixw11.out.step bw12); clear Ixw11; have Iyw12 := Lib.hid (Iyw11.out.step bw12); clear Iyw11; have Itw12 := Lib.hid (Itw11.out.step bw12); clear Itw11))
  go_wp2_with fail
  go_ret
  exact ⟨rfl, by go_grown⟩

end Go.Proofs.Ytbgemonpkncldaa
