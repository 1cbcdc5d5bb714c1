/- The law FnExactNewImage: it returns true. -/
import Derived.Test.YtbgemonpkncldaaWalks4
import Derived.Test.YtbgemonpkncldaaNew
import Derived.Deep.RegionHeld3
import Derived.Deep.DeepCutAuto
namespace Go.Proofs.Ytbgemonpkncldaa
open Go.RowKit
set_option linter.unusedVariables false
theorem Pl.new_len (w h p : Int) : (Pl.newImage w h p).d.length ≤ 256 := by
  unfold Pl.newImage
  split
  · rename_i hc
    simp only [Bool.and_eq_true] at hc
    have a := Pl.inB_t hc.1.1
    have b := Pl.inB_t hc.1.2
    have c := Pl.mul_bd (a := w) (b := h) (A := 16) (B := 16) (by omega) (by omega) (by omega) (by omega)
    simp
    omega
  · simp [Pl.Img.zero]
set_option maxHeartbeats 8000000 in
theorem walkFnExactNewImage (a0 : Int) (a1 : Int) (a2 : Int) (w : World) (wa0 : (Lit.int .i64 a0).wf = true) (wa1 : (Lit.int .i64 a1).wf = true) (wa2 : (Lit.int .i64 a2).wf = true) : Calls Try.prog 6 #[.int .i64 a0, .int .i64 a1, .int .i64 a2] w fun e w' => e = .returned (.bool true) ∧ Below w.heap.size w w' := by
  have Bw : Below w.heap.size w w := Below.refl _ _
  have bsw := Bw.size
  clear wa0
  clear wa1
  clear wa2
  have hT : (Pl.newImage a0 a1 a2).d.length ≤ 256 := Pl.new_len _ _ _
  go_enter Try.func6, Try.ntmps6
  go_wp2_with fail
  refine (specNewImage _ _ _ _).mono ?_
  rintro e w1 ⟨Aw1, cw1, rfl, Ow1, hbw1⟩
  have bw1 : Below w.heap.size w w1 := later (by go_grown) hbw1
  have Bw1 : Below w.heap.size w w1 := Bw.trans (bw1.mono bsw)
  have sw1 := hbw1.size
  (try simp at sw1)
  have tw1 := bw1.size
  have bsw1 := Bw1.size
  have Iww1 : Hid (Ints w1 (w.heap.size) w1.heap.size _ _) := Own.mono Ow1 (by (try simp); (try omega)) (Nat.le_refl _) (Nat.le_refl _)
  clear Ow1
  go_wp2_with fail
  refine (implNewImage _ _ _ _).mono ?_
  rintro e w2 ⟨Aw2, cw2, rfl, Ow2, hbw2⟩
  have bw2 : Below w1.heap.size w1 w2 := later (by go_grown) hbw2
  have Bw2 : Below w.heap.size w w2 := Bw1.trans (bw2.mono bsw1)
  have sw2 := hbw2.size
  (try simp at sw2)
  have tw2 := bw2.size
  have bsw2 := Bw2.size
  have Xww2 := Lib.hid (Box.of3 hbw2 (w1.heap.size) (by first | omega | (simp; done) | (simp; omega)) (v0 := .int .i64 (Pl.newImage a0 a1 a2).w)  (v1 := .int .i64 (Pl.newImage a0 a1 a2).h)  (v2 := .slice Aw1 (Pl.newImage a0 a1 a2).d.length cw1) (by simp [go_sem]) (by simp [go_sem]) (by simp [go_sem]))
  have ⟨qww2_0, qww2_1, qww2_2, qww2_3⟩ := Xww2.out.open3
  have Iww2 := Lib.hid (Iww1.out.step bw2)
  clear Iww1
  have Igw2 : Hid (Ints w2 (w1.heap.size + 1) w2.heap.size _ _) := Own.mono Ow2 (by (try simp); (try omega)) (Nat.le_refl _) (Nat.le_refl _)
  clear Ow2
  go_wp2_with fail
  refine (eqImage_same _ _ _ _ _ _ _ _ (w1.heap.size + 1) (w2.heap.size) (w.heap.size) (w1.heap.size) (Pl.newImage a0 a1 a2).d _ (Igw2.out.step (by go_grown)) (Iww2.out.step (by go_grown))).mono ?_
  rintro e w3 ⟨rfl, hbw3⟩
  have bw3 : Below w2.heap.size w2 w3 := later (by go_grown) hbw3
  have Bw3 : Below w.heap.size w w3 := Bw2.trans (bw3.mono bsw2)
  have sw3 := hbw3.size
  (try simp at sw3)
  have tw3 := bw3.size
  have bsw3 := Bw3.size
  have Xww3 := Lib.hid (Xww2.out.step bw3)
  clear Xww2 qww2_0 qww2_1 qww2_2 qww2_3
  have Xgw3 := Lib.hid (Box.of3 hbw3 (w2.heap.size) (by first | omega | (simp; done) | (simp; omega)) (v0 := .int .i64 (Pl.newImage a0 a1 a2).w)  (v1 := .int .i64 (Pl.newImage a0 a1 a2).h)  (v2 := .slice Aw2 (Pl.newImage a0 a1 a2).d.length cw2) (by simp [go_sem]) (by simp [go_sem]) (by simp [go_sem]))
  have ⟨qww3_0, qww3_1, qww3_2, qww3_3⟩ := Xww3.out.open3
  have ⟨qgw3_0, qgw3_1, qgw3_2, qgw3_3⟩ := Xgw3.out.open3
  have Iww3 := Lib.hid (Iww2.out.step bw3)
  clear Iww2
  have Igw3 := Lib.hid (Igw2.out.step bw3)
  clear Igw2
  go_wp2_with fail
  refine (markImage_any _ _ _ _ _ (w1.heap.size + 1) (w2.heap.size) (Pl.newImage a0 a1 a2).d _ _ (Igw3.out.step (by go_grown)) (by omega) (by omega)).mono ?_
  rintro e w4 ⟨rfl, Ow4, how4⟩
  have ow4 : Out (w1.heap.size + 1) (w2.heap.size) w3 w4 := (Out.of_below (by go_grown) _ _).trans how4
  have Bw4 : Below w.heap.size w w4 := below_out Bw3 ow4 (by omega) bsw3
  have tw4 := ow4.size
  have bsw4 := Bw4.size
  have Xww4 := Lib.hid (Xww3.out.out ow4 (by omega))
  clear Xww3 qww3_0 qww3_1 qww3_2 qww3_3
  have Xgw4 := Lib.hid (Xgw3.out.out ow4 (by omega))
  clear Xgw3 qgw3_0 qgw3_1 qgw3_2 qgw3_3
  have ⟨qww4_0, qww4_1, qww4_2, qww4_3⟩ := Xww4.out.open3
  have ⟨qgw4_0, qgw4_1, qgw4_2, qgw4_3⟩ := Xgw4.out.open3
  have Iww4 := Lib.hid (Iww3.out.out ow4 (by omega))
  clear Iww3
  clear Igw3
  have Igw4 := Lib.hid Ow4
  clear Ow4
  go_wp2_with fail
  refine (heldImage_same _ _ _ _ _ (w1.heap.size + 1) (w2.heap.size) _ _ (Igw4.out.step (by go_grown)) (by omega) (by omega)).mono ?_
  rintro e w5 ⟨rfl, hbw5⟩
  have bw5 : Below w4.heap.size w4 w5 := later (by go_grown) hbw5
  have Bw5 : Below w.heap.size w w5 := Bw4.trans (bw5.mono bsw4)
  have sw5 := hbw5.size
  (try simp at sw5)
  have tw5 := bw5.size
  have bsw5 := Bw5.size
  have Xww5 := Lib.hid (Xww4.out.step bw5)
  clear Xww4 qww4_0 qww4_1 qww4_2 qww4_3
  have Xgw5 := Lib.hid (Xgw4.out.step bw5)
  clear Xgw4 qgw4_0 qgw4_1 qgw4_2 qgw4_3
  have ⟨qww5_0, qww5_1, qww5_2, qww5_3⟩ := Xww5.out.open3
  have ⟨qgw5_0, qgw5_1, qgw5_2, qgw5_3⟩ := Xgw5.out.open3
  have Iww5 := Lib.hid (Iww4.out.step bw5)
  clear Iww4
  have Igw5 := Lib.hid (Igw4.out.step bw5)
  clear Igw4
  go_wp2_with fail
  refine (implNewImage _ _ _ _).mono ?_
  rintro e w6 ⟨Aw6, cw6, rfl, Ow6, hbw6⟩
  have bw6 : Below w5.heap.size w5 w6 := later (by go_grown) hbw6
  have Bw6 : Below w.heap.size w w6 := Bw5.trans (bw6.mono bsw5)
  have sw6 := hbw6.size
  (try simp at sw6)
  have tw6 := bw6.size
  have bsw6 := Bw6.size
  have Xww6 := Lib.hid (Xww5.out.step bw6)
  clear Xww5 qww5_0 qww5_1 qww5_2 qww5_3
  have Xgw6 := Lib.hid (Xgw5.out.step bw6)
  clear Xgw5 qgw5_0 qgw5_1 qgw5_2 qgw5_3
  have ⟨qww6_0, qww6_1, qww6_2, qww6_3⟩ := Xww6.out.open3
  have ⟨qgw6_0, qgw6_1, qgw6_2, qgw6_3⟩ := Xgw6.out.open3
  have Iww6 := Lib.hid (Iww5.out.step bw6)
  clear Iww5
  have Igw6 := Lib.hid (Igw5.out.step bw6)
  clear Igw5
  have Ihw6 : Hid (Ints w6 (w5.heap.size) w6.heap.size _ _) := Own.mono Ow6 (by (try simp); (try omega)) (Nat.le_refl _) (Nat.le_refl _)
  clear Ow6
  go_wp2_with fail
  refine (eqImage_same _ _ _ _ _ _ _ _ (w5.heap.size) (w6.heap.size) (w.heap.size) (w1.heap.size) (Pl.newImage a0 a1 a2).d _ (Ihw6.out.step (by go_grown)) (Iww6.out.step (by go_grown))).mono ?_
  rintro e w7 ⟨rfl, hbw7⟩
  have bw7 : Below w6.heap.size w6 w7 := later (by go_grown) hbw7
  have Bw7 : Below w.heap.size w w7 := Bw6.trans (bw7.mono bsw6)
  have sw7 := hbw7.size
  (try simp at sw7)
  have tw7 := bw7.size
  have bsw7 := Bw7.size
  have Xww7 := Lib.hid (Xww6.out.step bw7)
  clear Xww6 qww6_0 qww6_1 qww6_2 qww6_3
  have Xgw7 := Lib.hid (Xgw6.out.step bw7)
  clear Xgw6 qgw6_0 qgw6_1 qgw6_2 qgw6_3
  have Xhw7 := Lib.hid (Box.of3 hbw7 (w6.heap.size) (by first | omega | (simp; done) | (simp; omega)) (v0 := .int .i64 (Pl.newImage a0 a1 a2).w)  (v1 := .int .i64 (Pl.newImage a0 a1 a2).h)  (v2 := .slice Aw6 (Pl.newImage a0 a1 a2).d.length cw6) (by simp [go_sem]) (by simp [go_sem]) (by simp [go_sem]))
  have ⟨qww7_0, qww7_1, qww7_2, qww7_3⟩ := Xww7.out.open3
  have ⟨qgw7_0, qgw7_1, qgw7_2, qgw7_3⟩ := Xgw7.out.open3
  have ⟨qhw7_0, qhw7_1, qhw7_2, qhw7_3⟩ := Xhw7.out.open3
  have Iww7 := Lib.hid (Iww6.out.step bw7)
  clear Iww6
  have Igw7 := Lib.hid (Igw6.out.step bw7)
  clear Igw6
  have Ihw7 := Lib.hid (Ihw6.out.step bw7)
  clear Ihw6
  go_wp2_with fail
  refine (heldImage_same _ _ _ _ _ (w1.heap.size + 1) (w2.heap.size) _ _ (Igw7.out.step (by go_grown)) (by omega) (by omega)).mono ?_
  rintro e w8 ⟨rfl, hbw8⟩
  have bw8 : Below w7.heap.size w7 w8 := later (by go_grown) hbw8
  have Bw8 : Below w.heap.size w w8 := Bw7.trans (bw8.mono bsw7)
  have sw8 := hbw8.size
  (try simp at sw8)
  have tw8 := bw8.size
  have bsw8 := Bw8.size
  have Xww8 := Lib.hid (Xww7.out.step bw8)
  clear Xww7 qww7_0 qww7_1 qww7_2 qww7_3
  have Xgw8 := Lib.hid (Xgw7.out.step bw8)
  clear Xgw7 qgw7_0 qgw7_1 qgw7_2 qgw7_3
  have Xhw8 := Lib.hid (Xhw7.out.step bw8)
  clear Xhw7 qhw7_0 qhw7_1 qhw7_2 qhw7_3
  have ⟨qww8_0, qww8_1, qww8_2, qww8_3⟩ := Xww8.out.open3
  have ⟨qgw8_0, qgw8_1, qgw8_2, qgw8_3⟩ := Xgw8.out.open3
  have ⟨qhw8_0, qhw8_1, qhw8_2, qhw8_3⟩ := Xhw8.out.open3
  have Iww8 := Lib.hid (Iww7.out.step bw8)
  clear Iww7
  have Igw8 := Lib.hid (Igw7.out.step bw8)
  clear Igw7
  have Ihw8 := Lib.hid (Ihw7.out.step bw8)
  clear Ihw7
  go_wp2_with fail
  go_ret
  exact ⟨rfl, by go_grown⟩
end Go.Proofs.Ytbgemonpkncldaa
