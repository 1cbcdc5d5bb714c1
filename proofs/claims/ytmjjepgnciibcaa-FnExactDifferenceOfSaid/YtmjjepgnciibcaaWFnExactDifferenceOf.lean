/- The law FnExactDifferenceOf: it returns true. -/
import Derived.Test.YtmjjepgnciibcaaDiff2
import Derived.Test.YtmjjepgnciibcaaIm
import Derived.Test.YtmjjepgnciibcaaRecs3
import Derived.BigQuiet
import Derived.Deep.Cut
import Derived.Deep.DeepCutAuto
import Derived.Test.YtmjjepgnciibcaaOrd
namespace Go.Proofs.Ytmjjepgnciibcaa
open Go.RowKit
set_option linter.unusedVariables false
set_option linter.unusedSimpArgs false
/-- The laws' regions, compared with their like. -/
theorem eqRegion_same (A1 A2 : Option Addr) (n m c1 c2 : Nat) (zs : List Pl.R) (w : World) (H1 : RArg w A1 zs) (H2 : RArg w A2 zs) (L1 : zs.length = n) (L2 : zs.length = m) (b1 : n ≤ 9223372036854775807) (b2 : m ≤ 9223372036854775807) :
    Calls Try.prog 10 #[.agg #[.slice A1 n c1], .agg #[.slice A2 m c2]] w fun e w' => e = .returned (.bool true) ∧ Below w.heap.size w w' := by
  have h := eqRegion_any A1 A2 n m c1 c2 zs zs w H1 H2 L1 L2 b1 b2
  simpa using h
/-- A new variable that holds a region. -/
def NewVarR (J wx : World) (b : Nat) (rs : List Pl.R) : Prop :=
  ∃ (A : Option Addr) (c lo hi : Nat), J.heap.size ≤ b ∧ J.heap.size ≤ lo ∧ hi ≤ wx.heap.size ∧ (b < lo ∨ hi ≤ b) ∧ VB wx b [.slice A rs.length c] ∧ Recs wx lo hi (.slice A rs.length c) rs ∧ Below J.heap.size J wx
theorem size_setCell_eq (w : World) (a : Addr) (v : Value) : (w.setCell a v).heap.size = w.heap.size := by simp [World.setCell]
theorem szd_small {n : Nat} {l : Int} (h : n ≤ l) : Pl.szd l n = l - n := by unfold Pl.szd; rw [if_neg (by omega)]
theorem szd_big {n : Nat} {l : Int} (h : l < n) : Pl.szd l n = -1 := by unfold Pl.szd; rw [if_pos h]
theorem eqImage_same (W H : Int) (A1 A2 : Option Addr) (n m c1 c2 l1 h1 l2 h2 : Nat) (zs : List Int) (w : World) (I1 : Ints w l1 h1 (.slice A1 n c1) zs) (I2 : Ints w l2 h2 (.slice A2 m c2) zs) :
    Calls Try.prog 11 #[.agg #[.int .i64 W, .int .i64 H, .slice A1 n c1], .agg #[.int .i64 W, .int .i64 H, .slice A2 m c2]] w fun e w' => e = .returned (.bool true) ∧ Below w.heap.size w w' := by
  have h := eqImage_any W H W H A1 A2 n m c1 c2 l1 h1 l2 h2 zs zs w I1 I2
  simpa using h
theorem Pl.diffOf_length (i j : Pl.Img) : (Pl.diffOf i j).length ≤ 256 := by
  unfold Pl.diffOf
  split
  · exact Pl.canon_length _
  · simp
set_option maxRecDepth 100000 in
set_option maxHeartbeats 8000000 in
theorem walkFnExactDifferenceOf (ix0 iy0 : Int) (A0 : Option Addr) (n0 c0 : Nat) (z0 : List Int) (ix1 iy1 : Int) (A1 : Option Addr) (n1 c1 : Nat) (z1 : List Int) (w : World) (wix0 : (Lit.int .i64 ix0).wf = true) (wiy0 : (Lit.int .i64 iy0).wf = true) (hr0 : IsRow .i64 w A0 n0 c0 z0) (wix1 : (Lit.int .i64 ix1).wf = true) (wiy1 : (Lit.int .i64 iy1).wf = true) (hr1 : IsRow .i64 w A1 n1 c1 z1) : Calls Try.prog 3 #[.agg #[.int .i64 ix0, .int .i64 iy0, .slice A0 n0 c0], .agg #[.int .i64 ix1, .int .i64 iy1, .slice A1 n1 c1]] w fun e w' => e = .returned (.bool true) ∧ Below w.heap.size w w' := by
  have bbw : Hid (Below w.heap.size w w) := Lib.hid (Below.refl _ _)
  obtain ⟨ha0, hl0, hm0, hq0⟩ := Arg.of_row hr0
  generalize z0.take n0 = zs0 at *
  have arg0 := Lib.hid ha0
  have L0 := Lib.hid hl0
  clear ha0 hl0 hr0 hq0 wix0 wiy0
  obtain ⟨ha1, hl1, hm1, hq1⟩ := Arg.of_row hr1
  generalize z1.take n1 = zs1 at *
  have arg1 := Lib.hid ha1
  have L1 := Lib.hid hl1
  clear ha1 hl1 hr1 hq1 wix1 wiy1
  by_cases hbig0 : 1048576 < (n0 : Int)
  · have hs := szd_big hbig0
    have HS := Lib.hid hs
    clear hs
    go_enter Try.func3, Try.ntmps3
    go_wp2_with fail
    have Va0w1 := Lib.hid ((VB.new (w := w) (b := w.heap.size) (t := 24) (cs := [.int .i64 ix0,.int .i64 iy0,.slice A0 n0 c0]) (by simp)).alloc (.cells #[.int .i64 ix1, .int .i64 iy1, .slice A1 n1 c1] 24 (0, 0)))
    have Va1w1 := Lib.hid (VB.new (w := (w.alloc (.cells #[.int .i64 ix0, .int .i64 iy0, .slice A0 n0 c0] 24 (0, 0)))) (b := w.heap.size + 1) (t := 24) (cs := [.int .i64 ix1,.int .i64 iy1,.slice A1 n1 c1]) (by simp))
    have hbw1 : Below w.heap.size w ((w.alloc (.cells #[.int .i64 ix0, .int .i64 iy0, .slice A0 n0 c0] 24 (0, 0))).alloc (.cells #[.int .i64 ix1, .int .i64 iy1, .slice A1 n1 c1] 24 (0, 0))) := by go_grown
    have bbw1 : Hid (Below w.heap.size w ((w.alloc (.cells #[.int .i64 ix0, .int .i64 iy0, .slice A0 n0 c0] 24 (0, 0))).alloc (.cells #[.int .i64 ix1, .int .i64 iy1, .slice A1 n1 c1] 24 (0, 0)))) := Lib.hid (later bbw.out hbw1)
    have hzw1 : w.heap.size + 2 ≤ ((w.alloc (.cells #[.int .i64 ix0, .int .i64 iy0, .slice A0 n0 c0] 24 (0, 0))).alloc (.cells #[.int .i64 ix1, .int .i64 iy1, .slice A1 n1 c1] 24 (0, 0))).heap.size := by simp
    generalize ((w.alloc (.cells #[.int .i64 ix0, .int .i64 iy0, .slice A0 n0 c0] 24 (0, 0))).alloc (.cells #[.int .i64 ix1, .int .i64 iy1, .slice A1 n1 c1] 24 (0, 0))) = w1 at *
    obtain ⟨la0w1, ca0w1_0, ca0w1_1, ca0w1_2, fa0w1_0, fa0w1_1, fa0w1_2⟩ := Va0w1.out.open3
    obtain ⟨la1w1, ca1w1_0, ca1w1_1, ca1w1_2, fa1w1_0, fa1w1_1, fa1w1_2⟩ := Va1w1.out.open3
    refine (szImage_any _ _ _ _ _ _ _ (by omega) (by omega) (by omega)).mono ?_
    rintro e w2 ⟨rfl, hbw2⟩
    clear la0w1 ca0w1_0 ca0w1_1 ca0w1_2 fa0w1_0 fa0w1_1 fa0w1_2 la1w1 ca1w1_0 ca1w1_1 ca1w1_2 fa1w1_0 fa1w1_1 fa1w1_2
    have bbw2 := Lib.hid (later bbw1.out hbw2)
    have hzw2 := hbw2.size
    have Va0w2 := Lib.hid (Va0w1.out.step hbw2)
    have Va1w2 := Lib.hid (Va1w1.out.step hbw2)
    clear Va0w1
    clear Va1w1
    obtain ⟨la0w2, ca0w2_0, ca0w2_1, ca0w2_2, fa0w2_0, fa0w2_1, fa0w2_2⟩ := Va0w2.out.open3
    obtain ⟨la1w2, ca1w2_0, ca1w2_1, ca1w2_2, fa1w2_0, fa1w2_1, fa1w2_2⟩ := Va1w2.out.open3
    rw [HS.out]
    go_wp2_with fail
    go_ret
    exact ⟨rfl, bbw2.out⟩
  by_cases hbig1 : 1048576 - (n0 : Int) < (n1 : Int)
  · have hs := szd_big hbig1
    have HS := Lib.hid hs
    clear hs
    go_enter Try.func3, Try.ntmps3
    go_wp2_with fail
    have Va0w3 := Lib.hid ((VB.new (w := w) (b := w.heap.size) (t := 24) (cs := [.int .i64 ix0,.int .i64 iy0,.slice A0 n0 c0]) (by simp)).alloc (.cells #[.int .i64 ix1, .int .i64 iy1, .slice A1 n1 c1] 24 (0, 0)))
    have Va1w3 := Lib.hid (VB.new (w := (w.alloc (.cells #[.int .i64 ix0, .int .i64 iy0, .slice A0 n0 c0] 24 (0, 0)))) (b := w.heap.size + 1) (t := 24) (cs := [.int .i64 ix1,.int .i64 iy1,.slice A1 n1 c1]) (by simp))
    have hbw3 : Below w.heap.size w ((w.alloc (.cells #[.int .i64 ix0, .int .i64 iy0, .slice A0 n0 c0] 24 (0, 0))).alloc (.cells #[.int .i64 ix1, .int .i64 iy1, .slice A1 n1 c1] 24 (0, 0))) := by go_grown
    have bbw3 : Hid (Below w.heap.size w ((w.alloc (.cells #[.int .i64 ix0, .int .i64 iy0, .slice A0 n0 c0] 24 (0, 0))).alloc (.cells #[.int .i64 ix1, .int .i64 iy1, .slice A1 n1 c1] 24 (0, 0)))) := Lib.hid (later bbw.out hbw3)
    have hzw3 : w.heap.size + 2 ≤ ((w.alloc (.cells #[.int .i64 ix0, .int .i64 iy0, .slice A0 n0 c0] 24 (0, 0))).alloc (.cells #[.int .i64 ix1, .int .i64 iy1, .slice A1 n1 c1] 24 (0, 0))).heap.size := by simp
    generalize ((w.alloc (.cells #[.int .i64 ix0, .int .i64 iy0, .slice A0 n0 c0] 24 (0, 0))).alloc (.cells #[.int .i64 ix1, .int .i64 iy1, .slice A1 n1 c1] 24 (0, 0))) = w3 at *
    obtain ⟨la0w3, ca0w3_0, ca0w3_1, ca0w3_2, fa0w3_0, fa0w3_1, fa0w3_2⟩ := Va0w3.out.open3
    obtain ⟨la1w3, ca1w3_0, ca1w3_1, ca1w3_2, fa1w3_0, fa1w3_1, fa1w3_2⟩ := Va1w3.out.open3
    refine (szImage_any _ _ _ _ _ _ _ (by omega) (by omega) (by omega)).mono ?_
    rintro e w4 ⟨rfl, hbw4⟩
    clear la0w3 ca0w3_0 ca0w3_1 ca0w3_2 fa0w3_0 fa0w3_1 fa0w3_2 la1w3 ca1w3_0 ca1w3_1 ca1w3_2 fa1w3_0 fa1w3_1 fa1w3_2
    have bbw4 := Lib.hid (later bbw3.out hbw4)
    have hzw4 := hbw4.size
    have Va0w4 := Lib.hid (Va0w3.out.step hbw4)
    have Va1w4 := Lib.hid (Va1w3.out.step hbw4)
    clear Va0w3
    clear Va1w3
    obtain ⟨la0w4, ca0w4_0, ca0w4_1, ca0w4_2, fa0w4_0, fa0w4_1, fa0w4_2⟩ := Va0w4.out.open3
    obtain ⟨la1w4, ca1w4_0, ca1w4_1, ca1w4_2, fa1w4_0, fa1w4_1, fa1w4_2⟩ := Va1w4.out.open3
    rw [szd_small (by omega)]
    go_wp2_with fail
    refine (szImage_any _ _ _ _ _ _ _ (by omega) (by omega) (by omega)).mono ?_
    rintro e w5 ⟨rfl, hbw5⟩
    clear la0w4 ca0w4_0 ca0w4_1 ca0w4_2 fa0w4_0 fa0w4_1 fa0w4_2 la1w4 ca1w4_0 ca1w4_1 ca1w4_2 fa1w4_0 fa1w4_1 fa1w4_2
    have bbw5 := Lib.hid (later bbw4.out hbw5)
    have hzw5 := hbw5.size
    have Va0w5 := Lib.hid (Va0w4.out.step hbw5)
    have Va1w5 := Lib.hid (Va1w4.out.step hbw5)
    clear Va0w4
    clear Va1w4
    obtain ⟨la0w5, ca0w5_0, ca0w5_1, ca0w5_2, fa0w5_0, fa0w5_1, fa0w5_2⟩ := Va0w5.out.open3
    obtain ⟨la1w5, ca1w5_0, ca1w5_1, ca1w5_2, fa1w5_0, fa1w5_1, fa1w5_2⟩ := Va1w5.out.open3
    rw [HS.out]
    go_wp2_with fail
    go_ret
    exact ⟨rfl, bbw5.out⟩
  have hsm0 : n0 ≤ 1048576 := by omega
  have hN0 : zs0.length ≤ 1048576 := by rw [L0.out]; exact hsm0
  have hsm1 : n1 ≤ 1048576 := by omega
  have hN1 : zs1.length ≤ 1048576 := by rw [L1.out]; exact hsm1
  go_enter Try.func3, Try.ntmps3
  go_wp2_with fail
  have Va0w6 := Lib.hid ((VB.new (w := w) (b := w.heap.size) (t := 24) (cs := [.int .i64 ix0,.int .i64 iy0,.slice A0 n0 c0]) (by simp)).alloc (.cells #[.int .i64 ix1, .int .i64 iy1, .slice A1 n1 c1] 24 (0, 0)))
  have Va1w6 := Lib.hid (VB.new (w := (w.alloc (.cells #[.int .i64 ix0, .int .i64 iy0, .slice A0 n0 c0] 24 (0, 0)))) (b := w.heap.size + 1) (t := 24) (cs := [.int .i64 ix1,.int .i64 iy1,.slice A1 n1 c1]) (by simp))
  have hbw6 : Below w.heap.size w ((w.alloc (.cells #[.int .i64 ix0, .int .i64 iy0, .slice A0 n0 c0] 24 (0, 0))).alloc (.cells #[.int .i64 ix1, .int .i64 iy1, .slice A1 n1 c1] 24 (0, 0))) := by go_grown
  have bbw6 : Hid (Below w.heap.size w ((w.alloc (.cells #[.int .i64 ix0, .int .i64 iy0, .slice A0 n0 c0] 24 (0, 0))).alloc (.cells #[.int .i64 ix1, .int .i64 iy1, .slice A1 n1 c1] 24 (0, 0)))) := Lib.hid (later bbw.out hbw6)
  have hzw6 : w.heap.size + 2 ≤ ((w.alloc (.cells #[.int .i64 ix0, .int .i64 iy0, .slice A0 n0 c0] 24 (0, 0))).alloc (.cells #[.int .i64 ix1, .int .i64 iy1, .slice A1 n1 c1] 24 (0, 0))).heap.size := by simp
  generalize ((w.alloc (.cells #[.int .i64 ix0, .int .i64 iy0, .slice A0 n0 c0] 24 (0, 0))).alloc (.cells #[.int .i64 ix1, .int .i64 iy1, .slice A1 n1 c1] 24 (0, 0))) = w6 at *
  obtain ⟨la0w6, ca0w6_0, ca0w6_1, ca0w6_2, fa0w6_0, fa0w6_1, fa0w6_2⟩ := Va0w6.out.open3
  obtain ⟨la1w6, ca1w6_0, ca1w6_1, ca1w6_2, fa1w6_0, fa1w6_1, fa1w6_2⟩ := Va1w6.out.open3
  refine (szImage_any _ _ _ _ _ _ _ (by omega) (by omega) (by omega)).mono ?_
  rintro e w7 ⟨rfl, hbw7⟩
  clear la0w6 ca0w6_0 ca0w6_1 ca0w6_2 fa0w6_0 fa0w6_1 fa0w6_2 la1w6 ca1w6_0 ca1w6_1 ca1w6_2 fa1w6_0 fa1w6_1 fa1w6_2
  have bbw7 := Lib.hid (later bbw6.out hbw7)
  have hzw7 := hbw7.size
  have Va0w7 := Lib.hid (Va0w6.out.step hbw7)
  have Va1w7 := Lib.hid (Va1w6.out.step hbw7)
  clear Va0w6
  clear Va1w6
  obtain ⟨la0w7, ca0w7_0, ca0w7_1, ca0w7_2, fa0w7_0, fa0w7_1, fa0w7_2⟩ := Va0w7.out.open3
  obtain ⟨la1w7, ca1w7_0, ca1w7_1, ca1w7_2, fa1w7_0, fa1w7_1, fa1w7_2⟩ := Va1w7.out.open3
  rw [szd_small (by omega)]
  go_wp2_with fail
  refine (szImage_any _ _ _ _ _ _ _ (by omega) (by omega) (by omega)).mono ?_
  rintro e w8 ⟨rfl, hbw8⟩
  clear la0w7 ca0w7_0 ca0w7_1 ca0w7_2 fa0w7_0 fa0w7_1 fa0w7_2 la1w7 ca1w7_0 ca1w7_1 ca1w7_2 fa1w7_0 fa1w7_1 fa1w7_2
  have bbw8 := Lib.hid (later bbw7.out hbw8)
  have hzw8 := hbw8.size
  have Va0w8 := Lib.hid (Va0w7.out.step hbw8)
  have Va1w8 := Lib.hid (Va1w7.out.step hbw8)
  clear Va0w7
  clear Va1w7
  obtain ⟨la0w8, ca0w8_0, ca0w8_1, ca0w8_2, fa0w8_0, fa0w8_1, fa0w8_2⟩ := Va0w8.out.open3
  obtain ⟨la1w8, ca1w8_0, ca1w8_1, ca1w8_2, fa1w8_0, fa1w8_1, fa1w8_2⟩ := Va1w8.out.open3
  rw [szd_small (by omega)]
  have h256 : (Pl.diffOf ⟨ix0, iy0, zs0⟩ ⟨ix1, iy1, zs1⟩).length ≤ 256 := Pl.diffOf_length _ _
  go_wp2_with fail
  go_cut [6] (fun s6 wx => ∃ b : Nat, s6 = .pointer (some ⟨b, 0, none⟩) ∧ NewVarR w8 wx b (Pl.diffOf ⟨ix0, iy0, zs0⟩ ⟨ix1, iy1, zs1⟩))
  case first =>
    clear la0w8 ca0w8_0 ca0w8_1 ca0w8_2 fa0w8_0 fa0w8_1 fa0w8_2 la1w8 ca1w8_0 ca1w8_1 ca1w8_2 fa1w8_0 fa1w8_1 fa1w8_2
    have bbw9 : Hid (Below w.heap.size w w8.drew) := Lib.hid (Below.drew bbw8.out)
    have bjw9 : Hid (Below w8.heap.size w8 w8.drew) := Lib.hid (Below.drew (Below.refl _ _))
    have hzw9 : w8.heap.size ≤ w8.drew.heap.size := Nat.le_refl _
    have Va0w9 := Lib.hid (VB.drew Va0w8.out)
    have Va1w9 := Lib.hid (VB.drew Va1w8.out)
    refine regionL (S := (fun w' => VB w' (w.heap.size) [.int .i64 ix0, .int .i64 iy0, .slice A0 n0 c0] ∧ VB w' (w.heap.size + 1) [.int .i64 ix1, .int .i64 iy1, .slice A1 n1 c1])) (L := 6) (by kernel_rfl) ?_ (fun hHeld => ?_)
    · (first | exact ⟨VB.step (hHeld.1) B9, VB.step (hHeld.2) B9⟩ | exact ⟨VB.drew Va0w8.out, VB.drew Va1w8.out⟩)
    refine takeL (i := 0) (oi := ?_) (v := ?_) ?_ (by kernel_rfl) (by kernel_rfl) (by kernel_rfl) (by kernel_rfl) ?_ (Or.inl ⟨?_, ?_⟩) (by assumption) ?_
    rotate_left 2
    · (simp only [List.getElem?_toArray, List.getElem?_cons_succ, List.getElem?_cons_zero]; rfl)
    · exact fun _ _ _ h => h
    · rfl
    · (intro w hSw; (try dsimp only at hSw); obtain ⟨S0, S1⟩ := hSw; obtain ⟨l0S, c0S0, c0S1, c0S2, _⟩ := S0.open3; obtain ⟨l1S, c1S0, c1S1, c1S2, _⟩ := S1.open3; clear S0 S1; go_simp; (try with_reducible rfl))
    try simp only [Act.put, List.setIfInBounds_toArray, List.set_cons_zero, List.set_cons_succ]
    refine takeL (i := 2) (oi := ?_) (v := ?_) ?_ (by kernel_rfl) (by kernel_rfl) (by kernel_rfl) (by kernel_rfl) ?_ (Or.inl ⟨?_, ?_⟩) (by assumption) ?_
    rotate_left 2
    · (simp only [List.getElem?_toArray, List.getElem?_cons_succ, List.getElem?_cons_zero]; rfl)
    · exact fun _ _ _ h => h
    · rfl
    · (intro w hSw; (try dsimp only at hSw); obtain ⟨S0, S1⟩ := hSw; obtain ⟨l0S, c0S0, c0S1, c0S2, _⟩ := S0.open3; obtain ⟨l1S, c1S0, c1S1, c1S2, _⟩ := S1.open3; clear S0 S1; go_simp; (try with_reducible rfl))
    try simp only [Act.put, List.setIfInBounds_toArray, List.set_cons_zero, List.set_cons_succ]
    refine readyL (rs := [1, 5]) (by kernel_rfl) (by simp) ?_
    refine AllReadyL.cons (o := ?_) ?_ (fun K hK => ?_) ?_
    rotate_left
    · (simp only [List.getElem?_toArray, List.getElem?_cons_succ, List.getElem?_cons_zero]; rfl)
    · go_simp
      go_at_call 8
      ((with_reducible refine (toImage_any _ _ _ _ _ zs0 _ (arg0.out.below bbw9.out) L0.out hsm0).mono ?_))
      rintro e w10 ⟨Aw10, kw10, rfl, Ow10, hbw10⟩
      have Pw10 := Lib.hid Ow10
      clear Ow10
      have bbw10 := Lib.hid (later bbw9.out hbw10)
      have hzw10 := hbw10.size
      have Va0w10 := Lib.hid (Va0w9.out.step hbw10)
      have Va1w10 := Lib.hid (Va1w9.out.step hbw10)
      clear Va0w9
      clear Va1w9
      obtain ⟨la0w10, ca0w10_0, ca0w10_1, ca0w10_2, fa0w10_0, fa0w10_1, fa0w10_2⟩ := Va0w10.out.open3
      obtain ⟨la1w10, ca1w10_0, ca1w10_1, ca1w10_2, fa1w10_0, fa1w10_1, fa1w10_2⟩ := Va1w10.out.open3
      have Isw10 := Pw10
      clear Pw10
      have bjw10 := Lib.hid (later bjw9.out hbw10)
      have B9 := hbw10
      refine hK.out _ _ ?_ (fun hHeld => ?_)
      · (first | exact ⟨VB.step (hHeld.1) B9, VB.step (hHeld.2) B9⟩ | exact ⟨VB.drew Va0w8.out, VB.drew Va1w8.out⟩)
      clear hK K
      try simp only [Act.put, List.setIfInBounds_toArray, List.set_cons_zero, List.set_cons_succ]
      refine readyL (rs := [3, 5]) (by kernel_rfl) (by simp) ?_
      refine AllReadyL.cons (o := ?_) ?_ (fun K hK => ?_) ?_
      rotate_left
      · (simp only [List.getElem?_toArray, List.getElem?_cons_succ, List.getElem?_cons_zero]; rfl)
      · go_simp
        go_at_call 8
        ((with_reducible refine (toImage_any _ _ _ _ _ zs1 _ (arg1.out.below bbw10.out) L1.out hsm1).mono ?_))
        rintro e w11 ⟨Aw11, kw11, rfl, Ow11, hbw11⟩
        have Pw11 := Lib.hid Ow11
        clear Ow11
        clear la0w10 ca0w10_0 ca0w10_1 ca0w10_2 fa0w10_0 fa0w10_1 fa0w10_2 la1w10 ca1w10_0 ca1w10_1 ca1w10_2 fa1w10_0 fa1w10_1 fa1w10_2
        have bbw11 := Lib.hid (later bbw10.out hbw11)
        have hzw11 := hbw11.size
        have Va0w11 := Lib.hid (Va0w10.out.step hbw11)
        have Va1w11 := Lib.hid (Va1w10.out.step hbw11)
        have Isw11 : Hid _ := Lib.hid (Isw10.out.step hbw11)
        clear Va0w10
        clear Va1w10
        clear Isw10
        obtain ⟨la0w11, ca0w11_0, ca0w11_1, ca0w11_2, fa0w11_0, fa0w11_1, fa0w11_2⟩ := Va0w11.out.open3
        obtain ⟨la1w11, ca1w11_0, ca1w11_1, ca1w11_2, fa1w11_0, fa1w11_1, fa1w11_2⟩ := Va1w11.out.open3
        have Itw11 := Pw11
        clear Pw11
        have bjw11 := Lib.hid (later bjw10.out hbw11)
        have B9 := hbw11
        refine hK.out _ _ ?_ (fun hHeld => ?_)
        · (first | exact ⟨VB.step (hHeld.1) B9, VB.step (hHeld.2) B9⟩ | exact ⟨VB.drew Va0w8.out, VB.drew Va1w8.out⟩)
        clear hK K
        try simp only [Act.put, List.setIfInBounds_toArray, List.set_cons_zero, List.set_cons_succ]
        refine readyL (rs := [4, 5]) (by kernel_rfl) (by simp) ?_
        refine AllReadyL.cons (o := ?_) ?_ (fun K hK => ?_) ?_
        rotate_left
        · (simp only [List.getElem?_toArray, List.getElem?_cons_succ, List.getElem?_cons_zero]; rfl)
        · go_simp
          go_at_call 7
          ((with_reducible refine (specDifference ix0 iy0 ix1 iy1 _ _ _ _ _ _ _ _ _ _ zs0 zs1 _ Isw11.out Itw11.out).mono ?_))
          rintro e w12 ⟨Aw12, kw12, rfl, Ow12, hbw12⟩
          have Pw12 := Lib.hid Ow12
          clear Ow12
          clear la0w11 ca0w11_0 ca0w11_1 ca0w11_2 fa0w11_0 fa0w11_1 fa0w11_2 la1w11 ca1w11_0 ca1w11_1 ca1w11_2 fa1w11_0 fa1w11_1 fa1w11_2
          have bbw12 := Lib.hid (later bbw11.out hbw12)
          have hzw12 := hbw12.size
          have Va0w12 := Lib.hid (Va0w11.out.step hbw12)
          have Va1w12 := Lib.hid (Va1w11.out.step hbw12)
          have Isw12 : Hid _ := Lib.hid (Isw11.out.step hbw12)
          have Itw12 : Hid _ := Lib.hid (Itw11.out.step hbw12)
          clear Va0w11
          clear Va1w11
          clear Isw11
          clear Itw11
          obtain ⟨la0w12, ca0w12_0, ca0w12_1, ca0w12_2, fa0w12_0, fa0w12_1, fa0w12_2⟩ := Va0w12.out.open3
          obtain ⟨la1w12, ca1w12_0, ca1w12_1, ca1w12_2, fa1w12_0, fa1w12_1, fa1w12_2⟩ := Va1w12.out.open3
          have Iw'w12 := Pw12
          clear Pw12
          have bjw12 := Lib.hid (later bjw11.out hbw12)
          have B9 := hbw12
          refine hK.out _ _ ?_ (fun hHeld => ?_)
          · (first | exact ⟨VB.step (hHeld.1) B9, VB.step (hHeld.2) B9⟩ | exact ⟨VB.drew Va0w8.out, VB.drew Va1w8.out⟩)
          clear hK K
          try simp only [Act.put, List.setIfInBounds_toArray, List.set_cons_zero, List.set_cons_succ]
          refine readyL (rs := [5]) (by kernel_rfl) (by simp) ?_
          refine AllReadyL.cons (o := ?_) ?_ (fun K hK => ?_) AllReadyL.none_
          rotate_left
          · (simp only [List.getElem?_toArray, List.getElem?_cons_succ, List.getElem?_cons_zero]; rfl)
          go_simp
          have hbw13 : Below (w12).heap.size (w12) (w12.alloc (.cells #[.slice none 0 0] 28 (0, 0))) := by first | exact (Below.refl _ _).alloc (Nat.le_refl _) _ | exact (show Below (w8.drew).heap.size w8.drew (w8.drew.alloc (.cells #[.slice none 0 0] 28 (0, 0))) from (Below.refl _ _).alloc (Nat.le_refl _) _)
          have haw13 : w8.heap.size ≤ w12.heap.size := bjw12.out.size
          have hyw13 : (w12).heap.size < (w12.alloc (.cells #[.slice none 0 0] 28 (0, 0))).heap.size := by simp
          have Zw13 : Hid (VB (w12.alloc (.cells #[.slice none 0 0] 28 (0, 0))) (w12.heap.size) [.slice none 0 0]) := Lib.hid (by first | exact VB.new (cs := [.slice none 0 0]) rfl | exact VB.drew (VB.new (cs := [.slice none 0 0]) rfl))
          generalize (w12.alloc (.cells #[.slice none 0 0] 28 (0, 0))) = w13 at *
          clear la0w12 ca0w12_0 ca0w12_1 ca0w12_2 fa0w12_0 fa0w12_1 fa0w12_2 la1w12 ca1w12_0 ca1w12_1 ca1w12_2 fa1w12_0 fa1w12_1 fa1w12_2
          have bbw13 := Lib.hid (later bbw12.out hbw13)
          have hzw13 := hbw13.size
          have Va0w13 := Lib.hid (Va0w12.out.step hbw13)
          have Va1w13 := Lib.hid (Va1w12.out.step hbw13)
          have Isw13 : Hid _ := Lib.hid (Isw12.out.step hbw13)
          have Itw13 : Hid _ := Lib.hid (Itw12.out.step hbw13)
          have Iw'w13 : Hid _ := Lib.hid (Iw'w12.out.step hbw13)
          clear Va0w12
          clear Va1w12
          clear Isw12
          clear Itw12
          clear Iw'w12
          obtain ⟨la0w13, ca0w13_0, ca0w13_1, ca0w13_2, fa0w13_0, fa0w13_1, fa0w13_2⟩ := Va0w13.out.open3
          obtain ⟨la1w13, ca1w13_0, ca1w13_1, ca1w13_2, fa1w13_0, fa1w13_1, fa1w13_2⟩ := Va1w13.out.open3
          have bjw13 := Lib.hid (later bjw12.out hbw13)
          clear la0w13 ca0w13_0 ca0w13_1 ca0w13_2 fa0w13_0 fa0w13_1 fa0w13_2 la1w13 ca1w13_0 ca1w13_1 ca1w13_2 fa1w13_0 fa1w13_1 fa1w13_2
          have Vww13 := Zw13
          obtain ⟨la0w13, ca0w13_0, ca0w13_1, ca0w13_2, fa0w13_0, fa0w13_1, fa0w13_2⟩ := Va0w13.out.open3
          obtain ⟨la1w13, ca1w13_0, ca1w13_1, ca1w13_2, fa1w13_0, fa1w13_1, fa1w13_2⟩ := Va1w13.out.open3
          obtain ⟨lww13, cww13_0, fww13_0⟩ := Vww13.out.open1
          have B9 := hbw13
          refine hK.out _ _ ?_ (fun hHeld => ?_)
          · (first | exact ⟨VB.step (hHeld.1) B9, VB.step (hHeld.2) B9⟩ | exact ⟨VB.drew Va0w8.out, VB.drew Va1w8.out⟩)
          clear hK K
          try simp only [Act.put, List.setIfInBounds_toArray, List.set_cons_zero, List.set_cons_succ]
          refine readyL (rs := [6]) (by kernel_rfl) (by simp) ?_
          refine AllReadyL.last (o := ?_) ?_ (fun K hK => ?_)
          rotate_left
          · (simp only [List.getElem?_toArray, List.getElem?_cons_succ, List.getElem?_cons_zero]; rfl)
          go_simp
          refine hK.out _ _ ?_
          clear hK K
          try simp only [Act.put, List.setIfInBounds_toArray, List.set_cons_zero, List.set_cons_succ]
          refine doneL (by kernel_rfl) ?_ _
          go_wp2_with fail
          go_meet
          have e1 : w8.heap.size ≤ w11.heap.size := bjw11.out.size
          have e2 : w12.heap.size ≤ w13.heap.size := Iw'w13.out.hi_le
          case rel => exact ⟨w12.heap.size, rfl, Aw12, kw12, w11.heap.size, w12.heap.size, by omega, e1, Nat.le_trans e2 (Nat.le_of_eq (size_setCell_eq _ _ _).symm), by omega, Vww13.out.set 0 _, Own.far (p := ⟨w12.heap.size, 0, none⟩) Iw'w13.out (by show w12.heap.size < _ ∨ _ ≤ w12.heap.size; omega) _, bjw13.out.setCell (by show w8.heap.size ≤ w12.heap.size; omega) _⟩
        refine AllReadyL.cons (o := ?_) ?_ (fun K hK => ?_) ?_
        rotate_left
        · (simp only [List.getElem?_toArray, List.getElem?_cons_succ, List.getElem?_cons_zero]; rfl)
        · go_simp
          have hbw14 : Below (w11).heap.size (w11) (w11.alloc (.cells #[.slice none 0 0] 28 (0, 0))) := by first | exact (Below.refl _ _).alloc (Nat.le_refl _) _ | exact (show Below (w8.drew).heap.size w8.drew (w8.drew.alloc (.cells #[.slice none 0 0] 28 (0, 0))) from (Below.refl _ _).alloc (Nat.le_refl _) _)
          have haw14 : w8.heap.size ≤ w11.heap.size := bjw11.out.size
          have hyw14 : (w11).heap.size < (w11.alloc (.cells #[.slice none 0 0] 28 (0, 0))).heap.size := by simp
          have Zw14 : Hid (VB (w11.alloc (.cells #[.slice none 0 0] 28 (0, 0))) (w11.heap.size) [.slice none 0 0]) := Lib.hid (by first | exact VB.new (cs := [.slice none 0 0]) rfl | exact VB.drew (VB.new (cs := [.slice none 0 0]) rfl))
          generalize (w11.alloc (.cells #[.slice none 0 0] 28 (0, 0))) = w14 at *
          clear la0w11 ca0w11_0 ca0w11_1 ca0w11_2 fa0w11_0 fa0w11_1 fa0w11_2 la1w11 ca1w11_0 ca1w11_1 ca1w11_2 fa1w11_0 fa1w11_1 fa1w11_2
          have bbw14 := Lib.hid (later bbw11.out hbw14)
          have hzw14 := hbw14.size
          have Va0w14 := Lib.hid (Va0w11.out.step hbw14)
          have Va1w14 := Lib.hid (Va1w11.out.step hbw14)
          have Isw14 : Hid _ := Lib.hid (Isw11.out.step hbw14)
          have Itw14 : Hid _ := Lib.hid (Itw11.out.step hbw14)
          clear Va0w11
          clear Va1w11
          clear Isw11
          clear Itw11
          obtain ⟨la0w14, ca0w14_0, ca0w14_1, ca0w14_2, fa0w14_0, fa0w14_1, fa0w14_2⟩ := Va0w14.out.open3
          obtain ⟨la1w14, ca1w14_0, ca1w14_1, ca1w14_2, fa1w14_0, fa1w14_1, fa1w14_2⟩ := Va1w14.out.open3
          have bjw14 := Lib.hid (later bjw11.out hbw14)
          clear la0w14 ca0w14_0 ca0w14_1 ca0w14_2 fa0w14_0 fa0w14_1 fa0w14_2 la1w14 ca1w14_0 ca1w14_1 ca1w14_2 fa1w14_0 fa1w14_1 fa1w14_2
          have Vww14 := Zw14
          obtain ⟨la0w14, ca0w14_0, ca0w14_1, ca0w14_2, fa0w14_0, fa0w14_1, fa0w14_2⟩ := Va0w14.out.open3
          obtain ⟨la1w14, ca1w14_0, ca1w14_1, ca1w14_2, fa1w14_0, fa1w14_1, fa1w14_2⟩ := Va1w14.out.open3
          obtain ⟨lww14, cww14_0, fww14_0⟩ := Vww14.out.open1
          have B9 := hbw14
          refine hK.out _ _ ?_ (fun hHeld => ?_)
          · (first | exact ⟨VB.step (hHeld.1) B9, VB.step (hHeld.2) B9⟩ | exact ⟨VB.drew Va0w8.out, VB.drew Va1w8.out⟩)
          clear hK K
          try simp only [Act.put, List.setIfInBounds_toArray, List.set_cons_zero, List.set_cons_succ]
          refine readyL (rs := [4]) (by kernel_rfl) (by simp) ?_
          refine AllReadyL.cons (o := ?_) ?_ (fun K hK => ?_) AllReadyL.none_
          rotate_left
          · (simp only [List.getElem?_toArray, List.getElem?_cons_succ, List.getElem?_cons_zero]; rfl)
          go_simp
          go_at_call 7
          ((with_reducible refine (specDifference ix0 iy0 ix1 iy1 _ _ _ _ _ _ _ _ _ _ zs0 zs1 _ Isw14.out Itw14.out).mono ?_))
          rintro e w15 ⟨Aw15, kw15, rfl, Ow15, hbw15⟩
          have Pw15 := Lib.hid Ow15
          clear Ow15
          clear la0w14 ca0w14_0 ca0w14_1 ca0w14_2 fa0w14_0 fa0w14_1 fa0w14_2 la1w14 ca1w14_0 ca1w14_1 ca1w14_2 fa1w14_0 fa1w14_1 fa1w14_2 lww14 cww14_0 fww14_0
          have bbw15 := Lib.hid (later bbw14.out hbw15)
          have hzw15 := hbw15.size
          have Va0w15 := Lib.hid (Va0w14.out.step hbw15)
          have Va1w15 := Lib.hid (Va1w14.out.step hbw15)
          have Vww15 := Lib.hid (Vww14.out.step hbw15)
          have Isw15 : Hid _ := Lib.hid (Isw14.out.step hbw15)
          have Itw15 : Hid _ := Lib.hid (Itw14.out.step hbw15)
          clear Va0w14
          clear Va1w14
          clear Vww14
          clear Isw14
          clear Itw14
          obtain ⟨la0w15, ca0w15_0, ca0w15_1, ca0w15_2, fa0w15_0, fa0w15_1, fa0w15_2⟩ := Va0w15.out.open3
          obtain ⟨la1w15, ca1w15_0, ca1w15_1, ca1w15_2, fa1w15_0, fa1w15_1, fa1w15_2⟩ := Va1w15.out.open3
          obtain ⟨lww15, cww15_0, fww15_0⟩ := Vww15.out.open1
          have Iw'w15 := Pw15
          clear Pw15
          have bjw15 := Lib.hid (later bjw14.out hbw15)
          have B9 := hbw15
          refine hK.out _ _ ?_ (fun hHeld => ?_)
          · (first | exact ⟨VB.step (hHeld.1) B9, VB.step (hHeld.2) B9⟩ | exact ⟨VB.drew Va0w8.out, VB.drew Va1w8.out⟩)
          clear hK K
          try simp only [Act.put, List.setIfInBounds_toArray, List.set_cons_zero, List.set_cons_succ]
          refine readyL (rs := [6]) (by kernel_rfl) (by simp) ?_
          refine AllReadyL.last (o := ?_) ?_ (fun K hK => ?_)
          rotate_left
          · (simp only [List.getElem?_toArray, List.getElem?_cons_succ, List.getElem?_cons_zero]; rfl)
          go_simp
          refine hK.out _ _ ?_
          clear hK K
          try simp only [Act.put, List.setIfInBounds_toArray, List.set_cons_zero, List.set_cons_succ]
          refine doneL (by kernel_rfl) ?_ _
          go_wp2_with fail
          go_meet
          have e1 : w8.heap.size ≤ w14.heap.size := bjw14.out.size
          have e2 : w15.heap.size ≤ w15.heap.size := Iw'w15.out.hi_le
          case rel => exact ⟨w11.heap.size, rfl, Aw15, kw15, w14.heap.size, w15.heap.size, by omega, e1, Nat.le_trans e2 (Nat.le_of_eq (size_setCell_eq _ _ _).symm), by omega, Vww15.out.set 0 _, Own.far (p := ⟨w11.heap.size, 0, none⟩) Iw'w15.out (by show w11.heap.size < _ ∨ _ ≤ w11.heap.size; omega) _, bjw15.out.setCell (by show w8.heap.size ≤ w11.heap.size; omega) _⟩
        exact AllReadyL.none_
      refine AllReadyL.cons (o := ?_) ?_ (fun K hK => ?_) ?_
      rotate_left
      · (simp only [List.getElem?_toArray, List.getElem?_cons_succ, List.getElem?_cons_zero]; rfl)
      · go_simp
        have hbw16 : Below (w10).heap.size (w10) (w10.alloc (.cells #[.slice none 0 0] 28 (0, 0))) := by first | exact (Below.refl _ _).alloc (Nat.le_refl _) _ | exact (show Below (w8.drew).heap.size w8.drew (w8.drew.alloc (.cells #[.slice none 0 0] 28 (0, 0))) from (Below.refl _ _).alloc (Nat.le_refl _) _)
        have haw16 : w8.heap.size ≤ w10.heap.size := bjw10.out.size
        have hyw16 : (w10).heap.size < (w10.alloc (.cells #[.slice none 0 0] 28 (0, 0))).heap.size := by simp
        have Zw16 : Hid (VB (w10.alloc (.cells #[.slice none 0 0] 28 (0, 0))) (w10.heap.size) [.slice none 0 0]) := Lib.hid (by first | exact VB.new (cs := [.slice none 0 0]) rfl | exact VB.drew (VB.new (cs := [.slice none 0 0]) rfl))
        generalize (w10.alloc (.cells #[.slice none 0 0] 28 (0, 0))) = w16 at *
        clear la0w10 ca0w10_0 ca0w10_1 ca0w10_2 fa0w10_0 fa0w10_1 fa0w10_2 la1w10 ca1w10_0 ca1w10_1 ca1w10_2 fa1w10_0 fa1w10_1 fa1w10_2
        have bbw16 := Lib.hid (later bbw10.out hbw16)
        have hzw16 := hbw16.size
        have Va0w16 := Lib.hid (Va0w10.out.step hbw16)
        have Va1w16 := Lib.hid (Va1w10.out.step hbw16)
        have Isw16 : Hid _ := Lib.hid (Isw10.out.step hbw16)
        clear Va0w10
        clear Va1w10
        clear Isw10
        obtain ⟨la0w16, ca0w16_0, ca0w16_1, ca0w16_2, fa0w16_0, fa0w16_1, fa0w16_2⟩ := Va0w16.out.open3
        obtain ⟨la1w16, ca1w16_0, ca1w16_1, ca1w16_2, fa1w16_0, fa1w16_1, fa1w16_2⟩ := Va1w16.out.open3
        have bjw16 := Lib.hid (later bjw10.out hbw16)
        clear la0w16 ca0w16_0 ca0w16_1 ca0w16_2 fa0w16_0 fa0w16_1 fa0w16_2 la1w16 ca1w16_0 ca1w16_1 ca1w16_2 fa1w16_0 fa1w16_1 fa1w16_2
        have Vww16 := Zw16
        obtain ⟨la0w16, ca0w16_0, ca0w16_1, ca0w16_2, fa0w16_0, fa0w16_1, fa0w16_2⟩ := Va0w16.out.open3
        obtain ⟨la1w16, ca1w16_0, ca1w16_1, ca1w16_2, fa1w16_0, fa1w16_1, fa1w16_2⟩ := Va1w16.out.open3
        obtain ⟨lww16, cww16_0, fww16_0⟩ := Vww16.out.open1
        have B9 := hbw16
        refine hK.out _ _ ?_ (fun hHeld => ?_)
        · (first | exact ⟨VB.step (hHeld.1) B9, VB.step (hHeld.2) B9⟩ | exact ⟨VB.drew Va0w8.out, VB.drew Va1w8.out⟩)
        clear hK K
        try simp only [Act.put, List.setIfInBounds_toArray, List.set_cons_zero, List.set_cons_succ]
        refine readyL (rs := [3]) (by kernel_rfl) (by simp) ?_
        refine AllReadyL.cons (o := ?_) ?_ (fun K hK => ?_) AllReadyL.none_
        rotate_left
        · (simp only [List.getElem?_toArray, List.getElem?_cons_succ, List.getElem?_cons_zero]; rfl)
        go_simp
        go_at_call 8
        ((with_reducible refine (toImage_any _ _ _ _ _ zs1 _ (arg1.out.below bbw16.out) L1.out hsm1).mono ?_))
        rintro e w17 ⟨Aw17, kw17, rfl, Ow17, hbw17⟩
        have Pw17 := Lib.hid Ow17
        clear Ow17
        clear la0w16 ca0w16_0 ca0w16_1 ca0w16_2 fa0w16_0 fa0w16_1 fa0w16_2 la1w16 ca1w16_0 ca1w16_1 ca1w16_2 fa1w16_0 fa1w16_1 fa1w16_2 lww16 cww16_0 fww16_0
        have bbw17 := Lib.hid (later bbw16.out hbw17)
        have hzw17 := hbw17.size
        have Va0w17 := Lib.hid (Va0w16.out.step hbw17)
        have Va1w17 := Lib.hid (Va1w16.out.step hbw17)
        have Vww17 := Lib.hid (Vww16.out.step hbw17)
        have Isw17 : Hid _ := Lib.hid (Isw16.out.step hbw17)
        clear Va0w16
        clear Va1w16
        clear Vww16
        clear Isw16
        obtain ⟨la0w17, ca0w17_0, ca0w17_1, ca0w17_2, fa0w17_0, fa0w17_1, fa0w17_2⟩ := Va0w17.out.open3
        obtain ⟨la1w17, ca1w17_0, ca1w17_1, ca1w17_2, fa1w17_0, fa1w17_1, fa1w17_2⟩ := Va1w17.out.open3
        obtain ⟨lww17, cww17_0, fww17_0⟩ := Vww17.out.open1
        have Itw17 := Pw17
        clear Pw17
        have bjw17 := Lib.hid (later bjw16.out hbw17)
        have B9 := hbw17
        refine hK.out _ _ ?_ (fun hHeld => ?_)
        · (first | exact ⟨VB.step (hHeld.1) B9, VB.step (hHeld.2) B9⟩ | exact ⟨VB.drew Va0w8.out, VB.drew Va1w8.out⟩)
        clear hK K
        try simp only [Act.put, List.setIfInBounds_toArray, List.set_cons_zero, List.set_cons_succ]
        refine readyL (rs := [4]) (by kernel_rfl) (by simp) ?_
        refine AllReadyL.cons (o := ?_) ?_ (fun K hK => ?_) AllReadyL.none_
        rotate_left
        · (simp only [List.getElem?_toArray, List.getElem?_cons_succ, List.getElem?_cons_zero]; rfl)
        go_simp
        go_at_call 7
        ((with_reducible refine (specDifference ix0 iy0 ix1 iy1 _ _ _ _ _ _ _ _ _ _ zs0 zs1 _ Isw17.out Itw17.out).mono ?_))
        rintro e w18 ⟨Aw18, kw18, rfl, Ow18, hbw18⟩
        have Pw18 := Lib.hid Ow18
        clear Ow18
        clear la0w17 ca0w17_0 ca0w17_1 ca0w17_2 fa0w17_0 fa0w17_1 fa0w17_2 la1w17 ca1w17_0 ca1w17_1 ca1w17_2 fa1w17_0 fa1w17_1 fa1w17_2 lww17 cww17_0 fww17_0
        have bbw18 := Lib.hid (later bbw17.out hbw18)
        have hzw18 := hbw18.size
        have Va0w18 := Lib.hid (Va0w17.out.step hbw18)
        have Va1w18 := Lib.hid (Va1w17.out.step hbw18)
        have Vww18 := Lib.hid (Vww17.out.step hbw18)
        have Isw18 : Hid _ := Lib.hid (Isw17.out.step hbw18)
        have Itw18 : Hid _ := Lib.hid (Itw17.out.step hbw18)
        clear Va0w17
        clear Va1w17
        clear Vww17
        clear Isw17
        clear Itw17
        obtain ⟨la0w18, ca0w18_0, ca0w18_1, ca0w18_2, fa0w18_0, fa0w18_1, fa0w18_2⟩ := Va0w18.out.open3
        obtain ⟨la1w18, ca1w18_0, ca1w18_1, ca1w18_2, fa1w18_0, fa1w18_1, fa1w18_2⟩ := Va1w18.out.open3
        obtain ⟨lww18, cww18_0, fww18_0⟩ := Vww18.out.open1
        have Iw'w18 := Pw18
        clear Pw18
        have bjw18 := Lib.hid (later bjw17.out hbw18)
        have B9 := hbw18
        refine hK.out _ _ ?_ (fun hHeld => ?_)
        · (first | exact ⟨VB.step (hHeld.1) B9, VB.step (hHeld.2) B9⟩ | exact ⟨VB.drew Va0w8.out, VB.drew Va1w8.out⟩)
        clear hK K
        try simp only [Act.put, List.setIfInBounds_toArray, List.set_cons_zero, List.set_cons_succ]
        refine readyL (rs := [6]) (by kernel_rfl) (by simp) ?_
        refine AllReadyL.last (o := ?_) ?_ (fun K hK => ?_)
        rotate_left
        · (simp only [List.getElem?_toArray, List.getElem?_cons_succ, List.getElem?_cons_zero]; rfl)
        go_simp
        refine hK.out _ _ ?_
        clear hK K
        try simp only [Act.put, List.setIfInBounds_toArray, List.set_cons_zero, List.set_cons_succ]
        refine doneL (by kernel_rfl) ?_ _
        go_wp2_with fail
        go_meet
        have e1 : w8.heap.size ≤ w17.heap.size := bjw17.out.size
        have e2 : w18.heap.size ≤ w18.heap.size := Iw'w18.out.hi_le
        case rel => exact ⟨w10.heap.size, rfl, Aw18, kw18, w17.heap.size, w18.heap.size, by omega, e1, Nat.le_trans e2 (Nat.le_of_eq (size_setCell_eq _ _ _).symm), by omega, Vww18.out.set 0 _, Own.far (p := ⟨w10.heap.size, 0, none⟩) Iw'w18.out (by show w10.heap.size < _ ∨ _ ≤ w10.heap.size; omega) _, bjw18.out.setCell (by show w8.heap.size ≤ w10.heap.size; omega) _⟩
      exact AllReadyL.none_
    refine AllReadyL.cons (o := ?_) ?_ (fun K hK => ?_) ?_
    rotate_left
    · (simp only [List.getElem?_toArray, List.getElem?_cons_succ, List.getElem?_cons_zero]; rfl)
    · go_simp
      have hbw19 : Below (w8.drew).heap.size (w8.drew) (w8.alloc (.cells #[.slice none 0 0] 28 (0, 0))).drew := by first | exact (Below.refl _ _).alloc (Nat.le_refl _) _ | exact (show Below (w8.drew).heap.size w8.drew (w8.drew.alloc (.cells #[.slice none 0 0] 28 (0, 0))) from (Below.refl _ _).alloc (Nat.le_refl _) _)
      have haw19 : w8.heap.size ≤ w8.heap.size := Nat.le_refl _
      have hyw19 : (w8.drew).heap.size < (w8.alloc (.cells #[.slice none 0 0] 28 (0, 0))).drew.heap.size := by simp
      have Zw19 : Hid (VB (w8.alloc (.cells #[.slice none 0 0] 28 (0, 0))).drew (w8.heap.size) [.slice none 0 0]) := Lib.hid (by first | exact VB.new (cs := [.slice none 0 0]) rfl | exact VB.drew (VB.new (cs := [.slice none 0 0]) rfl))
      generalize (w8.alloc (.cells #[.slice none 0 0] 28 (0, 0))).drew = w19 at *
      have bbw19 := Lib.hid (later bbw9.out hbw19)
      have hzw19 := hbw19.size
      have Va0w19 := Lib.hid (Va0w9.out.step hbw19)
      have Va1w19 := Lib.hid (Va1w9.out.step hbw19)
      clear Va0w9
      clear Va1w9
      obtain ⟨la0w19, ca0w19_0, ca0w19_1, ca0w19_2, fa0w19_0, fa0w19_1, fa0w19_2⟩ := Va0w19.out.open3
      obtain ⟨la1w19, ca1w19_0, ca1w19_1, ca1w19_2, fa1w19_0, fa1w19_1, fa1w19_2⟩ := Va1w19.out.open3
      have bjw19 := Lib.hid (later bjw9.out hbw19)
      clear la0w19 ca0w19_0 ca0w19_1 ca0w19_2 fa0w19_0 fa0w19_1 fa0w19_2 la1w19 ca1w19_0 ca1w19_1 ca1w19_2 fa1w19_0 fa1w19_1 fa1w19_2
      have Vww19 := Zw19
      obtain ⟨la0w19, ca0w19_0, ca0w19_1, ca0w19_2, fa0w19_0, fa0w19_1, fa0w19_2⟩ := Va0w19.out.open3
      obtain ⟨la1w19, ca1w19_0, ca1w19_1, ca1w19_2, fa1w19_0, fa1w19_1, fa1w19_2⟩ := Va1w19.out.open3
      obtain ⟨lww19, cww19_0, fww19_0⟩ := Vww19.out.open1
      have B9 := hbw19
      refine hK.out _ _ ?_ (fun hHeld => ?_)
      · (first | exact ⟨VB.step (hHeld.1) B9, VB.step (hHeld.2) B9⟩ | exact ⟨VB.drew Va0w8.out, VB.drew Va1w8.out⟩)
      clear hK K
      try simp only [Act.put, List.setIfInBounds_toArray, List.set_cons_zero, List.set_cons_succ]
      refine readyL (rs := [1]) (by kernel_rfl) (by simp) ?_
      refine AllReadyL.cons (o := ?_) ?_ (fun K hK => ?_) AllReadyL.none_
      rotate_left
      · (simp only [List.getElem?_toArray, List.getElem?_cons_succ, List.getElem?_cons_zero]; rfl)
      go_simp
      go_at_call 8
      ((with_reducible refine (toImage_any _ _ _ _ _ zs0 _ (arg0.out.below bbw19.out) L0.out hsm0).mono ?_))
      rintro e w20 ⟨Aw20, kw20, rfl, Ow20, hbw20⟩
      have Pw20 := Lib.hid Ow20
      clear Ow20
      clear la0w19 ca0w19_0 ca0w19_1 ca0w19_2 fa0w19_0 fa0w19_1 fa0w19_2 la1w19 ca1w19_0 ca1w19_1 ca1w19_2 fa1w19_0 fa1w19_1 fa1w19_2 lww19 cww19_0 fww19_0
      have bbw20 := Lib.hid (later bbw19.out hbw20)
      have hzw20 := hbw20.size
      have Va0w20 := Lib.hid (Va0w19.out.step hbw20)
      have Va1w20 := Lib.hid (Va1w19.out.step hbw20)
      have Vww20 := Lib.hid (Vww19.out.step hbw20)
      clear Va0w19
      clear Va1w19
      clear Vww19
      obtain ⟨la0w20, ca0w20_0, ca0w20_1, ca0w20_2, fa0w20_0, fa0w20_1, fa0w20_2⟩ := Va0w20.out.open3
      obtain ⟨la1w20, ca1w20_0, ca1w20_1, ca1w20_2, fa1w20_0, fa1w20_1, fa1w20_2⟩ := Va1w20.out.open3
      obtain ⟨lww20, cww20_0, fww20_0⟩ := Vww20.out.open1
      have Isw20 := Pw20
      clear Pw20
      have bjw20 := Lib.hid (later bjw19.out hbw20)
      have B9 := hbw20
      refine hK.out _ _ ?_ (fun hHeld => ?_)
      · (first | exact ⟨VB.step (hHeld.1) B9, VB.step (hHeld.2) B9⟩ | exact ⟨VB.drew Va0w8.out, VB.drew Va1w8.out⟩)
      clear hK K
      try simp only [Act.put, List.setIfInBounds_toArray, List.set_cons_zero, List.set_cons_succ]
      refine readyL (rs := [3]) (by kernel_rfl) (by simp) ?_
      refine AllReadyL.cons (o := ?_) ?_ (fun K hK => ?_) AllReadyL.none_
      rotate_left
      · (simp only [List.getElem?_toArray, List.getElem?_cons_succ, List.getElem?_cons_zero]; rfl)
      go_simp
      go_at_call 8
      ((with_reducible refine (toImage_any _ _ _ _ _ zs1 _ (arg1.out.below bbw20.out) L1.out hsm1).mono ?_))
      rintro e w21 ⟨Aw21, kw21, rfl, Ow21, hbw21⟩
      have Pw21 := Lib.hid Ow21
      clear Ow21
      clear la0w20 ca0w20_0 ca0w20_1 ca0w20_2 fa0w20_0 fa0w20_1 fa0w20_2 la1w20 ca1w20_0 ca1w20_1 ca1w20_2 fa1w20_0 fa1w20_1 fa1w20_2 lww20 cww20_0 fww20_0
      have bbw21 := Lib.hid (later bbw20.out hbw21)
      have hzw21 := hbw21.size
      have Va0w21 := Lib.hid (Va0w20.out.step hbw21)
      have Va1w21 := Lib.hid (Va1w20.out.step hbw21)
      have Vww21 := Lib.hid (Vww20.out.step hbw21)
      have Isw21 : Hid _ := Lib.hid (Isw20.out.step hbw21)
      clear Va0w20
      clear Va1w20
      clear Vww20
      clear Isw20
      obtain ⟨la0w21, ca0w21_0, ca0w21_1, ca0w21_2, fa0w21_0, fa0w21_1, fa0w21_2⟩ := Va0w21.out.open3
      obtain ⟨la1w21, ca1w21_0, ca1w21_1, ca1w21_2, fa1w21_0, fa1w21_1, fa1w21_2⟩ := Va1w21.out.open3
      obtain ⟨lww21, cww21_0, fww21_0⟩ := Vww21.out.open1
      have Itw21 := Pw21
      clear Pw21
      have bjw21 := Lib.hid (later bjw20.out hbw21)
      have B9 := hbw21
      refine hK.out _ _ ?_ (fun hHeld => ?_)
      · (first | exact ⟨VB.step (hHeld.1) B9, VB.step (hHeld.2) B9⟩ | exact ⟨VB.drew Va0w8.out, VB.drew Va1w8.out⟩)
      clear hK K
      try simp only [Act.put, List.setIfInBounds_toArray, List.set_cons_zero, List.set_cons_succ]
      refine readyL (rs := [4]) (by kernel_rfl) (by simp) ?_
      refine AllReadyL.cons (o := ?_) ?_ (fun K hK => ?_) AllReadyL.none_
      rotate_left
      · (simp only [List.getElem?_toArray, List.getElem?_cons_succ, List.getElem?_cons_zero]; rfl)
      go_simp
      go_at_call 7
      ((with_reducible refine (specDifference ix0 iy0 ix1 iy1 _ _ _ _ _ _ _ _ _ _ zs0 zs1 _ Isw21.out Itw21.out).mono ?_))
      rintro e w22 ⟨Aw22, kw22, rfl, Ow22, hbw22⟩
      have Pw22 := Lib.hid Ow22
      clear Ow22
      clear la0w21 ca0w21_0 ca0w21_1 ca0w21_2 fa0w21_0 fa0w21_1 fa0w21_2 la1w21 ca1w21_0 ca1w21_1 ca1w21_2 fa1w21_0 fa1w21_1 fa1w21_2 lww21 cww21_0 fww21_0
      have bbw22 := Lib.hid (later bbw21.out hbw22)
      have hzw22 := hbw22.size
      have Va0w22 := Lib.hid (Va0w21.out.step hbw22)
      have Va1w22 := Lib.hid (Va1w21.out.step hbw22)
      have Vww22 := Lib.hid (Vww21.out.step hbw22)
      have Isw22 : Hid _ := Lib.hid (Isw21.out.step hbw22)
      have Itw22 : Hid _ := Lib.hid (Itw21.out.step hbw22)
      clear Va0w21
      clear Va1w21
      clear Vww21
      clear Isw21
      clear Itw21
      obtain ⟨la0w22, ca0w22_0, ca0w22_1, ca0w22_2, fa0w22_0, fa0w22_1, fa0w22_2⟩ := Va0w22.out.open3
      obtain ⟨la1w22, ca1w22_0, ca1w22_1, ca1w22_2, fa1w22_0, fa1w22_1, fa1w22_2⟩ := Va1w22.out.open3
      obtain ⟨lww22, cww22_0, fww22_0⟩ := Vww22.out.open1
      have Iw'w22 := Pw22
      clear Pw22
      have bjw22 := Lib.hid (later bjw21.out hbw22)
      have B9 := hbw22
      refine hK.out _ _ ?_ (fun hHeld => ?_)
      · (first | exact ⟨VB.step (hHeld.1) B9, VB.step (hHeld.2) B9⟩ | exact ⟨VB.drew Va0w8.out, VB.drew Va1w8.out⟩)
      clear hK K
      try simp only [Act.put, List.setIfInBounds_toArray, List.set_cons_zero, List.set_cons_succ]
      refine readyL (rs := [6]) (by kernel_rfl) (by simp) ?_
      refine AllReadyL.last (o := ?_) ?_ (fun K hK => ?_)
      rotate_left
      · (simp only [List.getElem?_toArray, List.getElem?_cons_succ, List.getElem?_cons_zero]; rfl)
      go_simp
      refine hK.out _ _ ?_
      clear hK K
      try simp only [Act.put, List.setIfInBounds_toArray, List.set_cons_zero, List.set_cons_succ]
      refine doneL (by kernel_rfl) ?_ _
      go_wp2_with fail
      go_meet
      have e1 : w8.heap.size ≤ w21.heap.size := bjw21.out.size
      have e2 : w22.heap.size ≤ w22.heap.size := Iw'w22.out.hi_le
      case rel => exact ⟨w8.heap.size, rfl, Aw22, kw22, w21.heap.size, w22.heap.size, by omega, e1, Nat.le_trans e2 (Nat.le_of_eq (size_setCell_eq _ _ _).symm), by omega, Vww22.out.set 0 _, Own.far (p := ⟨w8.heap.size, 0, none⟩) Iw'w22.out (by show w8.heap.size < _ ∨ _ ≤ w8.heap.size; omega) _, bjw22.out.setCell (by show w8.heap.size ≤ w8.heap.size; omega) _⟩
    exact AllReadyL.none_
  case rest =>
    obtain ⟨bkw23, rfl, Aw23, kw23, low23, hiw23, p1w23, p2w23, p3w23, p4w23, VVw23, IIw23, hbw23⟩ := hcut
    obtain ⟨w23, rfl⟩ : ∃ w23 : World, w23 = wc := ⟨_, rfl⟩
    clear la0w8 ca0w8_0 ca0w8_1 ca0w8_2 fa0w8_0 fa0w8_1 fa0w8_2 la1w8 ca1w8_0 ca1w8_1 ca1w8_2 fa1w8_0 fa1w8_1 fa1w8_2
    have bbw23 := Lib.hid (later bbw8.out hbw23)
    have hzw23 := hbw23.size
    have Va0w23 := Lib.hid (Va0w8.out.step hbw23)
    have Va1w23 := Lib.hid (Va1w8.out.step hbw23)
    clear Va0w8
    clear Va1w8
    obtain ⟨la0w23, ca0w23_0, ca0w23_1, ca0w23_2, fa0w23_0, fa0w23_1, fa0w23_2⟩ := Va0w23.out.open3
    obtain ⟨la1w23, ca1w23_0, ca1w23_1, ca1w23_2, fa1w23_0, fa1w23_1, fa1w23_2⟩ := Va1w23.out.open3
    clear la0w23 ca0w23_0 ca0w23_1 ca0w23_2 fa0w23_0 fa0w23_1 fa0w23_2 la1w23 ca1w23_0 ca1w23_1 ca1w23_2 fa1w23_0 fa1w23_1 fa1w23_2
    have Vww23 := Lib.hid VVw23
    have tw23 := Vww23.out.lt
    have Iww23 := Lib.hid IIw23
    clear VVw23 IIw23
    obtain ⟨la0w23, ca0w23_0, ca0w23_1, ca0w23_2, fa0w23_0, fa0w23_1, fa0w23_2⟩ := Va0w23.out.open3
    obtain ⟨la1w23, ca1w23_0, ca1w23_1, ca1w23_2, fa1w23_0, fa1w23_1, fa1w23_2⟩ := Va1w23.out.open3
    obtain ⟨lww23, cww23_0, fww23_0⟩ := Vww23.out.open1
    go_wp2_with fail
    refine (toImage_any _ _ _ _ _ zs0 _ (arg0.out.below bbw23.out) L0.out hsm0).mono ?_
    rintro e w24 ⟨Aw24, kw24, rfl, Ow24, hbw24⟩
    have Pw24 := Lib.hid Ow24
    clear Ow24
    clear la0w23 ca0w23_0 ca0w23_1 ca0w23_2 fa0w23_0 fa0w23_1 fa0w23_2 la1w23 ca1w23_0 ca1w23_1 ca1w23_2 fa1w23_0 fa1w23_1 fa1w23_2 lww23 cww23_0 fww23_0
    have bbw24 := Lib.hid (later bbw23.out hbw24)
    have hzw24 := hbw24.size
    have Va0w24 := Lib.hid (Va0w23.out.step hbw24)
    have Va1w24 := Lib.hid (Va1w23.out.step hbw24)
    have Vww24 := Lib.hid (Vww23.out.step hbw24)
    have Iww24 : Hid _ := Lib.hid (Iww23.out.step hbw24)
    clear Va0w23
    clear Va1w23
    clear Vww23
    clear Iww23
    obtain ⟨la0w24, ca0w24_0, ca0w24_1, ca0w24_2, fa0w24_0, fa0w24_1, fa0w24_2⟩ := Va0w24.out.open3
    obtain ⟨la1w24, ca1w24_0, ca1w24_1, ca1w24_2, fa1w24_0, fa1w24_1, fa1w24_2⟩ := Va1w24.out.open3
    obtain ⟨lww24, cww24_0, fww24_0⟩ := Vww24.out.open1
    have Ixw24 := Pw24
    clear Pw24
    go_wp2_with fail
    clear la0w24 ca0w24_0 ca0w24_1 ca0w24_2 fa0w24_0 fa0w24_1 fa0w24_2 la1w24 ca1w24_0 ca1w24_1 ca1w24_2 fa1w24_0 fa1w24_1 fa1w24_2 lww24 cww24_0 fww24_0
    have Va0w25 := Lib.hid ((Va0w24.out).alloc (.cells #[.int .i64 ix0, .int .i64 iy0, .slice Aw24 zs0.length kw24] 30 (0, 0)))
    have Va1w25 := Lib.hid ((Va1w24.out).alloc (.cells #[.int .i64 ix0, .int .i64 iy0, .slice Aw24 zs0.length kw24] 30 (0, 0)))
    have Vww25 := Lib.hid ((Vww24.out).alloc (.cells #[.int .i64 ix0, .int .i64 iy0, .slice Aw24 zs0.length kw24] 30 (0, 0)))
    have Iww25 : Hid _ := Lib.hid ((Iww24.out).alloc (.cells #[.int .i64 ix0, .int .i64 iy0, .slice Aw24 zs0.length kw24] 30 (0, 0)))
    have Ixw25 : Hid _ := Lib.hid ((Ixw24.out).alloc (.cells #[.int .i64 ix0, .int .i64 iy0, .slice Aw24 zs0.length kw24] 30 (0, 0)))
    have Vxw25 := Lib.hid (VB.new (w := w24) (b := w24.heap.size) (t := 30) (cs := [.int .i64 ix0,.int .i64 iy0,.slice Aw24 zs0.length kw24]) (by simp))
    have hbw25 : Below w24.heap.size w24 (w24.alloc (.cells #[.int .i64 ix0, .int .i64 iy0, .slice Aw24 zs0.length kw24] 30 (0, 0))) := by go_grown
    have bbw25 : Hid (Below w.heap.size w (w24.alloc (.cells #[.int .i64 ix0, .int .i64 iy0, .slice Aw24 zs0.length kw24] 30 (0, 0)))) := Lib.hid (later bbw24.out hbw25)
    have hzw25 : w24.heap.size + 1 ≤ (w24.alloc (.cells #[.int .i64 ix0, .int .i64 iy0, .slice Aw24 zs0.length kw24] 30 (0, 0))).heap.size := by simp
    generalize (w24.alloc (.cells #[.int .i64 ix0, .int .i64 iy0, .slice Aw24 zs0.length kw24] 30 (0, 0))) = w25 at *
    obtain ⟨la0w25, ca0w25_0, ca0w25_1, ca0w25_2, fa0w25_0, fa0w25_1, fa0w25_2⟩ := Va0w25.out.open3
    obtain ⟨la1w25, ca1w25_0, ca1w25_1, ca1w25_2, fa1w25_0, fa1w25_1, fa1w25_2⟩ := Va1w25.out.open3
    obtain ⟨lww25, cww25_0, fww25_0⟩ := Vww25.out.open1
    obtain ⟨lxw25, cxw25_0, cxw25_1, cxw25_2, fxw25_0, fxw25_1, fxw25_2⟩ := Vxw25.out.open3
    refine (toImage_any _ _ _ _ _ zs1 _ (arg1.out.below bbw25.out) L1.out hsm1).mono ?_
    rintro e w26 ⟨Aw26, kw26, rfl, Ow26, hbw26⟩
    have Pw26 := Lib.hid Ow26
    clear Ow26
    clear la0w25 ca0w25_0 ca0w25_1 ca0w25_2 fa0w25_0 fa0w25_1 fa0w25_2 la1w25 ca1w25_0 ca1w25_1 ca1w25_2 fa1w25_0 fa1w25_1 fa1w25_2 lww25 cww25_0 fww25_0 lxw25 cxw25_0 cxw25_1 cxw25_2 fxw25_0 fxw25_1 fxw25_2
    have bbw26 := Lib.hid (later bbw25.out hbw26)
    have hzw26 := hbw26.size
    have Va0w26 := Lib.hid (Va0w25.out.step hbw26)
    have Va1w26 := Lib.hid (Va1w25.out.step hbw26)
    have Vww26 := Lib.hid (Vww25.out.step hbw26)
    have Vxw26 := Lib.hid (Vxw25.out.step hbw26)
    have Iww26 : Hid _ := Lib.hid (Iww25.out.step hbw26)
    have Ixw26 : Hid _ := Lib.hid (Ixw25.out.step hbw26)
    clear Va0w25
    clear Va1w25
    clear Vww25
    clear Vxw25
    clear Iww25
    clear Ixw25
    obtain ⟨la0w26, ca0w26_0, ca0w26_1, ca0w26_2, fa0w26_0, fa0w26_1, fa0w26_2⟩ := Va0w26.out.open3
    obtain ⟨la1w26, ca1w26_0, ca1w26_1, ca1w26_2, fa1w26_0, fa1w26_1, fa1w26_2⟩ := Va1w26.out.open3
    obtain ⟨lww26, cww26_0, fww26_0⟩ := Vww26.out.open1
    obtain ⟨lxw26, cxw26_0, cxw26_1, cxw26_2, fxw26_0, fxw26_1, fxw26_2⟩ := Vxw26.out.open3
    have Iyw26 := Pw26
    clear Pw26
    go_wp2_with fail
    clear la0w26 ca0w26_0 ca0w26_1 ca0w26_2 fa0w26_0 fa0w26_1 fa0w26_2 la1w26 ca1w26_0 ca1w26_1 ca1w26_2 fa1w26_0 fa1w26_1 fa1w26_2 lww26 cww26_0 fww26_0 lxw26 cxw26_0 cxw26_1 cxw26_2 fxw26_0 fxw26_1 fxw26_2
    have Va0w27 := Lib.hid ((Va0w26.out).alloc (.cells #[.int .i64 ix1, .int .i64 iy1, .slice Aw26 zs1.length kw26] 30 (0, 0)))
    have Va1w27 := Lib.hid ((Va1w26.out).alloc (.cells #[.int .i64 ix1, .int .i64 iy1, .slice Aw26 zs1.length kw26] 30 (0, 0)))
    have Vww27 := Lib.hid ((Vww26.out).alloc (.cells #[.int .i64 ix1, .int .i64 iy1, .slice Aw26 zs1.length kw26] 30 (0, 0)))
    have Vxw27 := Lib.hid ((Vxw26.out).alloc (.cells #[.int .i64 ix1, .int .i64 iy1, .slice Aw26 zs1.length kw26] 30 (0, 0)))
    have Iww27 : Hid _ := Lib.hid ((Iww26.out).alloc (.cells #[.int .i64 ix1, .int .i64 iy1, .slice Aw26 zs1.length kw26] 30 (0, 0)))
    have Ixw27 : Hid _ := Lib.hid ((Ixw26.out).alloc (.cells #[.int .i64 ix1, .int .i64 iy1, .slice Aw26 zs1.length kw26] 30 (0, 0)))
    have Iyw27 : Hid _ := Lib.hid ((Iyw26.out).alloc (.cells #[.int .i64 ix1, .int .i64 iy1, .slice Aw26 zs1.length kw26] 30 (0, 0)))
    have Vyw27 := Lib.hid (VB.new (w := w26) (b := w26.heap.size) (t := 30) (cs := [.int .i64 ix1,.int .i64 iy1,.slice Aw26 zs1.length kw26]) (by simp))
    have hbw27 : Below w26.heap.size w26 (w26.alloc (.cells #[.int .i64 ix1, .int .i64 iy1, .slice Aw26 zs1.length kw26] 30 (0, 0))) := by go_grown
    have bbw27 : Hid (Below w.heap.size w (w26.alloc (.cells #[.int .i64 ix1, .int .i64 iy1, .slice Aw26 zs1.length kw26] 30 (0, 0)))) := Lib.hid (later bbw26.out hbw27)
    have hzw27 : w26.heap.size + 1 ≤ (w26.alloc (.cells #[.int .i64 ix1, .int .i64 iy1, .slice Aw26 zs1.length kw26] 30 (0, 0))).heap.size := by simp
    generalize (w26.alloc (.cells #[.int .i64 ix1, .int .i64 iy1, .slice Aw26 zs1.length kw26] 30 (0, 0))) = w27 at *
    obtain ⟨la0w27, ca0w27_0, ca0w27_1, ca0w27_2, fa0w27_0, fa0w27_1, fa0w27_2⟩ := Va0w27.out.open3
    obtain ⟨la1w27, ca1w27_0, ca1w27_1, ca1w27_2, fa1w27_0, fa1w27_1, fa1w27_2⟩ := Va1w27.out.open3
    obtain ⟨lww27, cww27_0, fww27_0⟩ := Vww27.out.open1
    obtain ⟨lxw27, cxw27_0, cxw27_1, cxw27_2, fxw27_0, fxw27_1, fxw27_2⟩ := Vxw27.out.open3
    obtain ⟨lyw27, cyw27_0, cyw27_1, cyw27_2, fyw27_0, fyw27_1, fyw27_2⟩ := Vyw27.out.open3
    refine (implDifference ix0 iy0 ix1 iy1 _ _ _ _ _ _ _ _ _ _ zs0 zs1 _ Ixw27.out Iyw27.out).mono ?_
    rintro e w28 ⟨Aw28, kw28, rfl, Ow28, hbw28⟩
    have Pw28 := Lib.hid Ow28
    clear Ow28
    clear la0w27 ca0w27_0 ca0w27_1 ca0w27_2 fa0w27_0 fa0w27_1 fa0w27_2 la1w27 ca1w27_0 ca1w27_1 ca1w27_2 fa1w27_0 fa1w27_1 fa1w27_2 lww27 cww27_0 fww27_0 lxw27 cxw27_0 cxw27_1 cxw27_2 fxw27_0 fxw27_1 fxw27_2 lyw27 cyw27_0 cyw27_1 cyw27_2 fyw27_0 fyw27_1 fyw27_2
    have bbw28 := Lib.hid (later bbw27.out hbw28)
    have hzw28 := hbw28.size
    have Va0w28 := Lib.hid (Va0w27.out.step hbw28)
    have Va1w28 := Lib.hid (Va1w27.out.step hbw28)
    have Vww28 := Lib.hid (Vww27.out.step hbw28)
    have Vxw28 := Lib.hid (Vxw27.out.step hbw28)
    have Vyw28 := Lib.hid (Vyw27.out.step hbw28)
    have Iww28 : Hid _ := Lib.hid (Iww27.out.step hbw28)
    have Ixw28 : Hid _ := Lib.hid (Ixw27.out.step hbw28)
    have Iyw28 : Hid _ := Lib.hid (Iyw27.out.step hbw28)
    clear Va0w27
    clear Va1w27
    clear Vww27
    clear Vxw27
    clear Vyw27
    clear Iww27
    clear Ixw27
    clear Iyw27
    obtain ⟨la0w28, ca0w28_0, ca0w28_1, ca0w28_2, fa0w28_0, fa0w28_1, fa0w28_2⟩ := Va0w28.out.open3
    obtain ⟨la1w28, ca1w28_0, ca1w28_1, ca1w28_2, fa1w28_0, fa1w28_1, fa1w28_2⟩ := Va1w28.out.open3
    obtain ⟨lww28, cww28_0, fww28_0⟩ := Vww28.out.open1
    obtain ⟨lxw28, cxw28_0, cxw28_1, cxw28_2, fxw28_0, fxw28_1, fxw28_2⟩ := Vxw28.out.open3
    obtain ⟨lyw28, cyw28_0, cyw28_1, cyw28_2, fyw28_0, fyw28_1, fyw28_2⟩ := Vyw28.out.open3
    have Igw28 := Pw28
    clear Pw28
    go_wp2_with fail
    clear la0w28 ca0w28_0 ca0w28_1 ca0w28_2 fa0w28_0 fa0w28_1 fa0w28_2 la1w28 ca1w28_0 ca1w28_1 ca1w28_2 fa1w28_0 fa1w28_1 fa1w28_2 lww28 cww28_0 fww28_0 lxw28 cxw28_0 cxw28_1 cxw28_2 fxw28_0 fxw28_1 fxw28_2 lyw28 cyw28_0 cyw28_1 cyw28_2 fyw28_0 fyw28_1 fyw28_2
    have Va0w29 := Lib.hid ((Va0w28.out).alloc (.cells #[.slice Aw28 (Pl.diffOf ⟨ix0, iy0, zs0⟩ ⟨ix1, iy1, zs1⟩).length kw28] 28 (0, 0)))
    have Va1w29 := Lib.hid ((Va1w28.out).alloc (.cells #[.slice Aw28 (Pl.diffOf ⟨ix0, iy0, zs0⟩ ⟨ix1, iy1, zs1⟩).length kw28] 28 (0, 0)))
    have Vww29 := Lib.hid ((Vww28.out).alloc (.cells #[.slice Aw28 (Pl.diffOf ⟨ix0, iy0, zs0⟩ ⟨ix1, iy1, zs1⟩).length kw28] 28 (0, 0)))
    have Vxw29 := Lib.hid ((Vxw28.out).alloc (.cells #[.slice Aw28 (Pl.diffOf ⟨ix0, iy0, zs0⟩ ⟨ix1, iy1, zs1⟩).length kw28] 28 (0, 0)))
    have Vyw29 := Lib.hid ((Vyw28.out).alloc (.cells #[.slice Aw28 (Pl.diffOf ⟨ix0, iy0, zs0⟩ ⟨ix1, iy1, zs1⟩).length kw28] 28 (0, 0)))
    have Iww29 : Hid _ := Lib.hid ((Iww28.out).alloc (.cells #[.slice Aw28 (Pl.diffOf ⟨ix0, iy0, zs0⟩ ⟨ix1, iy1, zs1⟩).length kw28] 28 (0, 0)))
    have Ixw29 : Hid _ := Lib.hid ((Ixw28.out).alloc (.cells #[.slice Aw28 (Pl.diffOf ⟨ix0, iy0, zs0⟩ ⟨ix1, iy1, zs1⟩).length kw28] 28 (0, 0)))
    have Iyw29 : Hid _ := Lib.hid ((Iyw28.out).alloc (.cells #[.slice Aw28 (Pl.diffOf ⟨ix0, iy0, zs0⟩ ⟨ix1, iy1, zs1⟩).length kw28] 28 (0, 0)))
    have Igw29 : Hid _ := Lib.hid ((Igw28.out).alloc (.cells #[.slice Aw28 (Pl.diffOf ⟨ix0, iy0, zs0⟩ ⟨ix1, iy1, zs1⟩).length kw28] 28 (0, 0)))
    have Vgw29 := Lib.hid (VB.new (w := w28) (b := w28.heap.size) (t := 28) (cs := [.slice Aw28 (Pl.diffOf ⟨ix0, iy0, zs0⟩ ⟨ix1, iy1, zs1⟩).length kw28]) (by simp))
    have hbw29 : Below w28.heap.size w28 (w28.alloc (.cells #[.slice Aw28 (Pl.diffOf ⟨ix0, iy0, zs0⟩ ⟨ix1, iy1, zs1⟩).length kw28] 28 (0, 0))) := by go_grown
    have bbw29 : Hid (Below w.heap.size w (w28.alloc (.cells #[.slice Aw28 (Pl.diffOf ⟨ix0, iy0, zs0⟩ ⟨ix1, iy1, zs1⟩).length kw28] 28 (0, 0)))) := Lib.hid (later bbw28.out hbw29)
    have hzw29 : w28.heap.size + 1 ≤ (w28.alloc (.cells #[.slice Aw28 (Pl.diffOf ⟨ix0, iy0, zs0⟩ ⟨ix1, iy1, zs1⟩).length kw28] 28 (0, 0))).heap.size := by simp
    generalize (w28.alloc (.cells #[.slice Aw28 (Pl.diffOf ⟨ix0, iy0, zs0⟩ ⟨ix1, iy1, zs1⟩).length kw28] 28 (0, 0))) = w29 at *
    obtain ⟨la0w29, ca0w29_0, ca0w29_1, ca0w29_2, fa0w29_0, fa0w29_1, fa0w29_2⟩ := Va0w29.out.open3
    obtain ⟨la1w29, ca1w29_0, ca1w29_1, ca1w29_2, fa1w29_0, fa1w29_1, fa1w29_2⟩ := Va1w29.out.open3
    obtain ⟨lww29, cww29_0, fww29_0⟩ := Vww29.out.open1
    obtain ⟨lxw29, cxw29_0, cxw29_1, cxw29_2, fxw29_0, fxw29_1, fxw29_2⟩ := Vxw29.out.open3
    obtain ⟨lyw29, cyw29_0, cyw29_1, cyw29_2, fyw29_0, fyw29_1, fyw29_2⟩ := Vyw29.out.open3
    obtain ⟨lgw29, cgw29_0, fgw29_0⟩ := Vgw29.out.open1
    refine (eqRegion_same _ _ _ _ _ _ (Pl.diffOf ⟨ix0, iy0, zs0⟩ ⟨ix1, iy1, zs1⟩) _ (Recs.arg Igw29.out) (Recs.arg Iww29.out) rfl rfl (by omega) (by omega)).mono ?_
    rintro e w30 ⟨rfl, hbw30⟩
    clear la0w29 ca0w29_0 ca0w29_1 ca0w29_2 fa0w29_0 fa0w29_1 fa0w29_2 la1w29 ca1w29_0 ca1w29_1 ca1w29_2 fa1w29_0 fa1w29_1 fa1w29_2 lww29 cww29_0 fww29_0 lxw29 cxw29_0 cxw29_1 cxw29_2 fxw29_0 fxw29_1 fxw29_2 lyw29 cyw29_0 cyw29_1 cyw29_2 fyw29_0 fyw29_1 fyw29_2 lgw29 cgw29_0 fgw29_0
    have bbw30 := Lib.hid (later bbw29.out hbw30)
    have hzw30 := hbw30.size
    have Va0w30 := Lib.hid (Va0w29.out.step hbw30)
    have Va1w30 := Lib.hid (Va1w29.out.step hbw30)
    have Vww30 := Lib.hid (Vww29.out.step hbw30)
    have Vxw30 := Lib.hid (Vxw29.out.step hbw30)
    have Vyw30 := Lib.hid (Vyw29.out.step hbw30)
    have Vgw30 := Lib.hid (Vgw29.out.step hbw30)
    have Iww30 : Hid _ := Lib.hid (Iww29.out.step hbw30)
    have Ixw30 : Hid _ := Lib.hid (Ixw29.out.step hbw30)
    have Iyw30 : Hid _ := Lib.hid (Iyw29.out.step hbw30)
    have Igw30 : Hid _ := Lib.hid (Igw29.out.step hbw30)
    clear Va0w29
    clear Va1w29
    clear Vww29
    clear Vxw29
    clear Vyw29
    clear Vgw29
    clear Iww29
    clear Ixw29
    clear Iyw29
    clear Igw29
    obtain ⟨la0w30, ca0w30_0, ca0w30_1, ca0w30_2, fa0w30_0, fa0w30_1, fa0w30_2⟩ := Va0w30.out.open3
    obtain ⟨la1w30, ca1w30_0, ca1w30_1, ca1w30_2, fa1w30_0, fa1w30_1, fa1w30_2⟩ := Va1w30.out.open3
    obtain ⟨lww30, cww30_0, fww30_0⟩ := Vww30.out.open1
    obtain ⟨lxw30, cxw30_0, cxw30_1, cxw30_2, fxw30_0, fxw30_1, fxw30_2⟩ := Vxw30.out.open3
    obtain ⟨lyw30, cyw30_0, cyw30_1, cyw30_2, fyw30_0, fyw30_1, fyw30_2⟩ := Vyw30.out.open3
    obtain ⟨lgw30, cgw30_0, fgw30_0⟩ := Vgw30.out.open1
    go_wp2_with fail
    clear la0w30 ca0w30_0 ca0w30_1 ca0w30_2 fa0w30_0 fa0w30_1 fa0w30_2 la1w30 ca1w30_0 ca1w30_1 ca1w30_2 fa1w30_0 fa1w30_1 fa1w30_2 lww30 cww30_0 fww30_0 lxw30 cxw30_0 cxw30_1 cxw30_2 fxw30_0 fxw30_1 fxw30_2 lyw30 cyw30_0 cyw30_1 cyw30_2 fyw30_0 fyw30_1 fyw30_2 lgw30 cgw30_0 fgw30_0
    have bbw31 : Hid (Below w.heap.size w w30.drew) := Lib.hid (Below.drew bbw30.out)
    have hzw31 : w30.heap.size ≤ w30.drew.heap.size := Nat.le_refl _
    have Va0w31 := Lib.hid (VB.drew Va0w30.out)
    have Va1w31 := Lib.hid (VB.drew Va1w30.out)
    have Vww31 := Lib.hid (VB.drew Vww30.out)
    have Vxw31 := Lib.hid (VB.drew Vxw30.out)
    have Vyw31 := Lib.hid (VB.drew Vyw30.out)
    have Vgw31 := Lib.hid (VB.drew Vgw30.out)
    have Iww31 : Hid _ := Lib.hid (show Recs w30.drew _ _ _ _ from Iww30.out)
    have Ixw31 : Hid _ := Lib.hid (show Ints w30.drew _ _ _ _ from Ixw30.out)
    have Iyw31 : Hid _ := Lib.hid (show Ints w30.drew _ _ _ _ from Iyw30.out)
    have Igw31 : Hid _ := Lib.hid (show Recs w30.drew _ _ _ _ from Igw30.out)
    refine regionL (S := (fun w' => VB w' (w24.heap.size) [.int .i64 ix0, .int .i64 iy0, .slice Aw24 zs0.length kw24] ∧ VB w' (w.heap.size) [.int .i64 ix0, .int .i64 iy0, .slice A0 n0 c0])) (L := 5) (by kernel_rfl) ?_ (fun hHeld => ?_)
    · (first | exact ⟨VB.step (hHeld.1) B9, VB.step (hHeld.2) B9⟩ | exact ⟨VB.alloc (hHeld.1) _, VB.alloc (hHeld.2) _⟩ | exact ⟨VB.drew (VB.alloc (show VB w30 _ _ from hHeld.1) _), VB.drew (VB.alloc (show VB w30 _ _ from hHeld.2) _)⟩ | exact ⟨VB.drew Vxw30.out, VB.drew Va0w30.out⟩)
    refine takeL (i := 0) (oi := ?_) (v := ?_) ?_ (by kernel_rfl) (by kernel_rfl) (by kernel_rfl) (by kernel_rfl) ?_ (Or.inl ⟨?_, ?_⟩) (by assumption) ?_
    rotate_left 2
    · (simp only [List.getElem?_toArray, List.getElem?_cons_succ, List.getElem?_cons_zero]; rfl)
    · exact fun _ _ _ h => h
    · rfl
    · (intro w hSw; (try dsimp only at hSw); obtain ⟨S0, S1⟩ := hSw; obtain ⟨l0S, c0S0, c0S1, c0S2, _⟩ := S0.open3; obtain ⟨l1S, c1S0, c1S1, c1S2, _⟩ := S1.open3; clear S0 S1; go_simp; (try with_reducible rfl))
    try simp only [Act.put, List.setIfInBounds_toArray, List.set_cons_zero, List.set_cons_succ]
    refine takeL (i := 1) (oi := ?_) (v := ?_) ?_ (by kernel_rfl) (by kernel_rfl) (by kernel_rfl) (by kernel_rfl) ?_ (Or.inl ⟨?_, ?_⟩) (by assumption) ?_
    rotate_left 2
    · (simp only [List.getElem?_toArray, List.getElem?_cons_succ, List.getElem?_cons_zero]; rfl)
    · exact fun _ _ _ h => h
    · rfl
    · (intro w hSw; (try dsimp only at hSw); obtain ⟨S0, S1⟩ := hSw; obtain ⟨l0S, c0S0, c0S1, c0S2, _⟩ := S0.open3; obtain ⟨l1S, c1S0, c1S1, c1S2, _⟩ := S1.open3; clear S0 S1; go_simp; (try with_reducible rfl))
    try simp only [Act.put, List.setIfInBounds_toArray, List.set_cons_zero, List.set_cons_succ]
    refine readyL (rs := [2]) (by kernel_rfl) (by simp) ?_
    refine AllReadyL.cons (o := ?_) ?_ (fun K hK => ?_) AllReadyL.none_
    rotate_left
    · (simp only [List.getElem?_toArray, List.getElem?_cons_succ, List.getElem?_cons_zero]; rfl)
    go_simp
    go_at_call 8
    ((with_reducible refine (toImage_any _ _ _ _ _ zs0 _ (arg0.out.below bbw31.out) L0.out hsm0).mono ?_))
    rintro e w32 ⟨Aw32, kw32, rfl, Ow32, hbw32⟩
    have Pw32 := Lib.hid Ow32
    clear Ow32
    have bbw32 := Lib.hid (later bbw31.out hbw32)
    have hzw32 := hbw32.size
    have Va0w32 := Lib.hid (Va0w31.out.step hbw32)
    have Va1w32 := Lib.hid (Va1w31.out.step hbw32)
    have Vww32 := Lib.hid (Vww31.out.step hbw32)
    have Vxw32 := Lib.hid (Vxw31.out.step hbw32)
    have Vyw32 := Lib.hid (Vyw31.out.step hbw32)
    have Vgw32 := Lib.hid (Vgw31.out.step hbw32)
    have Iww32 : Hid _ := Lib.hid (Iww31.out.step hbw32)
    have Ixw32 : Hid _ := Lib.hid (Ixw31.out.step hbw32)
    have Iyw32 : Hid _ := Lib.hid (Iyw31.out.step hbw32)
    have Igw32 : Hid _ := Lib.hid (Igw31.out.step hbw32)
    clear Va0w31
    clear Va1w31
    clear Vww31
    clear Vxw31
    clear Vyw31
    clear Vgw31
    clear Iww31
    clear Ixw31
    clear Iyw31
    clear Igw31
    obtain ⟨la0w32, ca0w32_0, ca0w32_1, ca0w32_2, fa0w32_0, fa0w32_1, fa0w32_2⟩ := Va0w32.out.open3
    obtain ⟨la1w32, ca1w32_0, ca1w32_1, ca1w32_2, fa1w32_0, fa1w32_1, fa1w32_2⟩ := Va1w32.out.open3
    obtain ⟨lww32, cww32_0, fww32_0⟩ := Vww32.out.open1
    obtain ⟨lxw32, cxw32_0, cxw32_1, cxw32_2, fxw32_0, fxw32_1, fxw32_2⟩ := Vxw32.out.open3
    obtain ⟨lyw32, cyw32_0, cyw32_1, cyw32_2, fyw32_0, fyw32_1, fyw32_2⟩ := Vyw32.out.open3
    obtain ⟨lgw32, cgw32_0, fgw32_0⟩ := Vgw32.out.open1
    have Itw32 := Pw32
    clear Pw32
    have B9 := hbw32
    refine hK.out _ _ ?_ (fun hHeld => ?_)
    · (first | exact ⟨VB.step (hHeld.1) B9, VB.step (hHeld.2) B9⟩ | exact ⟨VB.alloc (hHeld.1) _, VB.alloc (hHeld.2) _⟩ | exact ⟨VB.drew (VB.alloc (show VB w30 _ _ from hHeld.1) _), VB.drew (VB.alloc (show VB w30 _ _ from hHeld.2) _)⟩ | exact ⟨VB.drew Vxw30.out, VB.drew Va0w30.out⟩)
    clear hK K
    try simp only [Act.put, List.setIfInBounds_toArray, List.set_cons_zero, List.set_cons_succ]
    refine readyL (rs := [3]) (by kernel_rfl) (by simp) ?_
    refine AllReadyL.cons (o := ?_) ?_ (fun K hK => ?_) AllReadyL.none_
    rotate_left
    · (simp only [List.getElem?_toArray, List.getElem?_cons_succ, List.getElem?_cons_zero]; rfl)
    go_simp
    go_at_call 11
    ((with_reducible refine (eqImage_same _ _ _ _ _ _ _ _ _ _ _ _ zs0 _ Ixw32.out Itw32.out).mono ?_))
    rintro e w33 ⟨rfl, hbw33⟩
    clear la0w32 ca0w32_0 ca0w32_1 ca0w32_2 fa0w32_0 fa0w32_1 fa0w32_2 la1w32 ca1w32_0 ca1w32_1 ca1w32_2 fa1w32_0 fa1w32_1 fa1w32_2 lww32 cww32_0 fww32_0 lxw32 cxw32_0 cxw32_1 cxw32_2 fxw32_0 fxw32_1 fxw32_2 lyw32 cyw32_0 cyw32_1 cyw32_2 fyw32_0 fyw32_1 fyw32_2 lgw32 cgw32_0 fgw32_0
    have bbw33 := Lib.hid (later bbw32.out hbw33)
    have hzw33 := hbw33.size
    have Va0w33 := Lib.hid (Va0w32.out.step hbw33)
    have Va1w33 := Lib.hid (Va1w32.out.step hbw33)
    have Vww33 := Lib.hid (Vww32.out.step hbw33)
    have Vxw33 := Lib.hid (Vxw32.out.step hbw33)
    have Vyw33 := Lib.hid (Vyw32.out.step hbw33)
    have Vgw33 := Lib.hid (Vgw32.out.step hbw33)
    have Iww33 : Hid _ := Lib.hid (Iww32.out.step hbw33)
    have Ixw33 : Hid _ := Lib.hid (Ixw32.out.step hbw33)
    have Iyw33 : Hid _ := Lib.hid (Iyw32.out.step hbw33)
    have Igw33 : Hid _ := Lib.hid (Igw32.out.step hbw33)
    have Itw33 : Hid _ := Lib.hid (Itw32.out.step hbw33)
    clear Va0w32
    clear Va1w32
    clear Vww32
    clear Vxw32
    clear Vyw32
    clear Vgw32
    clear Iww32
    clear Ixw32
    clear Iyw32
    clear Igw32
    clear Itw32
    obtain ⟨la0w33, ca0w33_0, ca0w33_1, ca0w33_2, fa0w33_0, fa0w33_1, fa0w33_2⟩ := Va0w33.out.open3
    obtain ⟨la1w33, ca1w33_0, ca1w33_1, ca1w33_2, fa1w33_0, fa1w33_1, fa1w33_2⟩ := Va1w33.out.open3
    obtain ⟨lww33, cww33_0, fww33_0⟩ := Vww33.out.open1
    obtain ⟨lxw33, cxw33_0, cxw33_1, cxw33_2, fxw33_0, fxw33_1, fxw33_2⟩ := Vxw33.out.open3
    obtain ⟨lyw33, cyw33_0, cyw33_1, cyw33_2, fyw33_0, fyw33_1, fyw33_2⟩ := Vyw33.out.open3
    obtain ⟨lgw33, cgw33_0, fgw33_0⟩ := Vgw33.out.open1
    have B9 := hbw33
    refine hK.out _ _ ?_ (fun hHeld => ?_)
    · (first | exact ⟨VB.step (hHeld.1) B9, VB.step (hHeld.2) B9⟩ | exact ⟨VB.alloc (hHeld.1) _, VB.alloc (hHeld.2) _⟩ | exact ⟨VB.drew (VB.alloc (show VB w30 _ _ from hHeld.1) _), VB.drew (VB.alloc (show VB w30 _ _ from hHeld.2) _)⟩ | exact ⟨VB.drew Vxw30.out, VB.drew Va0w30.out⟩)
    clear hK K
    try simp only [Act.put, List.setIfInBounds_toArray, List.set_cons_zero, List.set_cons_succ]
    refine takeL (i := 4) (oi := ?_) (v := ?_) ?_ (by kernel_rfl) (by kernel_rfl) (by kernel_rfl) (by kernel_rfl) ?_ (Or.inl ⟨?_, ?_⟩) (by assumption) ?_
    rotate_left 2
    · (simp only [List.getElem?_toArray, List.getElem?_cons_succ, List.getElem?_cons_zero]; rfl)
    · exact fun _ _ _ h => h
    · rfl
    · (intro w hSw; (try dsimp only at hSw); obtain ⟨S0, S1⟩ := hSw; obtain ⟨l0S, c0S0, c0S1, c0S2, _⟩ := S0.open3; obtain ⟨l1S, c1S0, c1S1, c1S2, _⟩ := S1.open3; clear S0 S1; go_simp; (try with_reducible rfl))
    try simp only [Act.put, List.setIfInBounds_toArray, List.set_cons_zero, List.set_cons_succ]
    refine doneL (by kernel_rfl) ?_ _
    clear Itw33
    go_wp2_with fail
    clear la0w33 ca0w33_0 ca0w33_1 ca0w33_2 fa0w33_0 fa0w33_1 fa0w33_2 la1w33 ca1w33_0 ca1w33_1 ca1w33_2 fa1w33_0 fa1w33_1 fa1w33_2 lww33 cww33_0 fww33_0 lxw33 cxw33_0 cxw33_1 cxw33_2 fxw33_0 fxw33_1 fxw33_2 lyw33 cyw33_0 cyw33_1 cyw33_2 fyw33_0 fyw33_1 fyw33_2 lgw33 cgw33_0 fgw33_0
    have bbw34 : Hid (Below w.heap.size w w33.drew) := Lib.hid (Below.drew bbw33.out)
    have hzw34 : w33.heap.size ≤ w33.drew.heap.size := Nat.le_refl _
    have Va0w34 := Lib.hid (VB.drew Va0w33.out)
    have Va1w34 := Lib.hid (VB.drew Va1w33.out)
    have Vww34 := Lib.hid (VB.drew Vww33.out)
    have Vxw34 := Lib.hid (VB.drew Vxw33.out)
    have Vyw34 := Lib.hid (VB.drew Vyw33.out)
    have Vgw34 := Lib.hid (VB.drew Vgw33.out)
    have Iww34 : Hid _ := Lib.hid (show Recs w33.drew _ _ _ _ from Iww33.out)
    have Ixw34 : Hid _ := Lib.hid (show Ints w33.drew _ _ _ _ from Ixw33.out)
    have Iyw34 : Hid _ := Lib.hid (show Ints w33.drew _ _ _ _ from Iyw33.out)
    have Igw34 : Hid _ := Lib.hid (show Recs w33.drew _ _ _ _ from Igw33.out)
    refine regionL (S := (fun w' => VB w' (w26.heap.size) [.int .i64 ix1, .int .i64 iy1, .slice Aw26 zs1.length kw26] ∧ VB w' (w.heap.size + 1) [.int .i64 ix1, .int .i64 iy1, .slice A1 n1 c1])) (L := 5) (by kernel_rfl) ?_ (fun hHeld => ?_)
    · (first | exact ⟨VB.step (hHeld.1) B9, VB.step (hHeld.2) B9⟩ | exact ⟨VB.alloc (hHeld.1) _, VB.alloc (hHeld.2) _⟩ | exact ⟨VB.drew (VB.alloc (show VB w33 _ _ from hHeld.1) _), VB.drew (VB.alloc (show VB w33 _ _ from hHeld.2) _)⟩ | exact ⟨VB.drew Vyw33.out, VB.drew Va1w33.out⟩)
    refine takeL (i := 0) (oi := ?_) (v := ?_) ?_ (by kernel_rfl) (by kernel_rfl) (by kernel_rfl) (by kernel_rfl) ?_ (Or.inl ⟨?_, ?_⟩) (by assumption) ?_
    rotate_left 2
    · (simp only [List.getElem?_toArray, List.getElem?_cons_succ, List.getElem?_cons_zero]; rfl)
    · exact fun _ _ _ h => h
    · rfl
    · (intro w hSw; (try dsimp only at hSw); obtain ⟨S0, S1⟩ := hSw; obtain ⟨l0S, c0S0, c0S1, c0S2, _⟩ := S0.open3; obtain ⟨l1S, c1S0, c1S1, c1S2, _⟩ := S1.open3; clear S0 S1; go_simp; (try with_reducible rfl))
    try simp only [Act.put, List.setIfInBounds_toArray, List.set_cons_zero, List.set_cons_succ]
    refine takeL (i := 1) (oi := ?_) (v := ?_) ?_ (by kernel_rfl) (by kernel_rfl) (by kernel_rfl) (by kernel_rfl) ?_ (Or.inl ⟨?_, ?_⟩) (by assumption) ?_
    rotate_left 2
    · (simp only [List.getElem?_toArray, List.getElem?_cons_succ, List.getElem?_cons_zero]; rfl)
    · exact fun _ _ _ h => h
    · rfl
    · (intro w hSw; (try dsimp only at hSw); obtain ⟨S0, S1⟩ := hSw; obtain ⟨l0S, c0S0, c0S1, c0S2, _⟩ := S0.open3; obtain ⟨l1S, c1S0, c1S1, c1S2, _⟩ := S1.open3; clear S0 S1; go_simp; (try with_reducible rfl))
    try simp only [Act.put, List.setIfInBounds_toArray, List.set_cons_zero, List.set_cons_succ]
    refine readyL (rs := [2]) (by kernel_rfl) (by simp) ?_
    refine AllReadyL.cons (o := ?_) ?_ (fun K hK => ?_) AllReadyL.none_
    rotate_left
    · (simp only [List.getElem?_toArray, List.getElem?_cons_succ, List.getElem?_cons_zero]; rfl)
    go_simp
    go_at_call 8
    ((with_reducible refine (toImage_any _ _ _ _ _ zs1 _ (arg1.out.below bbw34.out) L1.out hsm1).mono ?_))
    rintro e w35 ⟨Aw35, kw35, rfl, Ow35, hbw35⟩
    have Pw35 := Lib.hid Ow35
    clear Ow35
    have bbw35 := Lib.hid (later bbw34.out hbw35)
    have hzw35 := hbw35.size
    have Va0w35 := Lib.hid (Va0w34.out.step hbw35)
    have Va1w35 := Lib.hid (Va1w34.out.step hbw35)
    have Vww35 := Lib.hid (Vww34.out.step hbw35)
    have Vxw35 := Lib.hid (Vxw34.out.step hbw35)
    have Vyw35 := Lib.hid (Vyw34.out.step hbw35)
    have Vgw35 := Lib.hid (Vgw34.out.step hbw35)
    have Iww35 : Hid _ := Lib.hid (Iww34.out.step hbw35)
    have Ixw35 : Hid _ := Lib.hid (Ixw34.out.step hbw35)
    have Iyw35 : Hid _ := Lib.hid (Iyw34.out.step hbw35)
    have Igw35 : Hid _ := Lib.hid (Igw34.out.step hbw35)
    clear Va0w34
    clear Va1w34
    clear Vww34
    clear Vxw34
    clear Vyw34
    clear Vgw34
    clear Iww34
    clear Ixw34
    clear Iyw34
    clear Igw34
    obtain ⟨la0w35, ca0w35_0, ca0w35_1, ca0w35_2, fa0w35_0, fa0w35_1, fa0w35_2⟩ := Va0w35.out.open3
    obtain ⟨la1w35, ca1w35_0, ca1w35_1, ca1w35_2, fa1w35_0, fa1w35_1, fa1w35_2⟩ := Va1w35.out.open3
    obtain ⟨lww35, cww35_0, fww35_0⟩ := Vww35.out.open1
    obtain ⟨lxw35, cxw35_0, cxw35_1, cxw35_2, fxw35_0, fxw35_1, fxw35_2⟩ := Vxw35.out.open3
    obtain ⟨lyw35, cyw35_0, cyw35_1, cyw35_2, fyw35_0, fyw35_1, fyw35_2⟩ := Vyw35.out.open3
    obtain ⟨lgw35, cgw35_0, fgw35_0⟩ := Vgw35.out.open1
    have Itw35 := Pw35
    clear Pw35
    have B9 := hbw35
    refine hK.out _ _ ?_ (fun hHeld => ?_)
    · (first | exact ⟨VB.step (hHeld.1) B9, VB.step (hHeld.2) B9⟩ | exact ⟨VB.alloc (hHeld.1) _, VB.alloc (hHeld.2) _⟩ | exact ⟨VB.drew (VB.alloc (show VB w33 _ _ from hHeld.1) _), VB.drew (VB.alloc (show VB w33 _ _ from hHeld.2) _)⟩ | exact ⟨VB.drew Vyw33.out, VB.drew Va1w33.out⟩)
    clear hK K
    try simp only [Act.put, List.setIfInBounds_toArray, List.set_cons_zero, List.set_cons_succ]
    refine readyL (rs := [3]) (by kernel_rfl) (by simp) ?_
    refine AllReadyL.cons (o := ?_) ?_ (fun K hK => ?_) AllReadyL.none_
    rotate_left
    · (simp only [List.getElem?_toArray, List.getElem?_cons_succ, List.getElem?_cons_zero]; rfl)
    go_simp
    go_at_call 11
    ((with_reducible refine (eqImage_same _ _ _ _ _ _ _ _ _ _ _ _ zs1 _ Iyw35.out Itw35.out).mono ?_))
    rintro e w36 ⟨rfl, hbw36⟩
    clear la0w35 ca0w35_0 ca0w35_1 ca0w35_2 fa0w35_0 fa0w35_1 fa0w35_2 la1w35 ca1w35_0 ca1w35_1 ca1w35_2 fa1w35_0 fa1w35_1 fa1w35_2 lww35 cww35_0 fww35_0 lxw35 cxw35_0 cxw35_1 cxw35_2 fxw35_0 fxw35_1 fxw35_2 lyw35 cyw35_0 cyw35_1 cyw35_2 fyw35_0 fyw35_1 fyw35_2 lgw35 cgw35_0 fgw35_0
    have bbw36 := Lib.hid (later bbw35.out hbw36)
    have hzw36 := hbw36.size
    have Va0w36 := Lib.hid (Va0w35.out.step hbw36)
    have Va1w36 := Lib.hid (Va1w35.out.step hbw36)
    have Vww36 := Lib.hid (Vww35.out.step hbw36)
    have Vxw36 := Lib.hid (Vxw35.out.step hbw36)
    have Vyw36 := Lib.hid (Vyw35.out.step hbw36)
    have Vgw36 := Lib.hid (Vgw35.out.step hbw36)
    have Iww36 : Hid _ := Lib.hid (Iww35.out.step hbw36)
    have Ixw36 : Hid _ := Lib.hid (Ixw35.out.step hbw36)
    have Iyw36 : Hid _ := Lib.hid (Iyw35.out.step hbw36)
    have Igw36 : Hid _ := Lib.hid (Igw35.out.step hbw36)
    have Itw36 : Hid _ := Lib.hid (Itw35.out.step hbw36)
    clear Va0w35
    clear Va1w35
    clear Vww35
    clear Vxw35
    clear Vyw35
    clear Vgw35
    clear Iww35
    clear Ixw35
    clear Iyw35
    clear Igw35
    clear Itw35
    obtain ⟨la0w36, ca0w36_0, ca0w36_1, ca0w36_2, fa0w36_0, fa0w36_1, fa0w36_2⟩ := Va0w36.out.open3
    obtain ⟨la1w36, ca1w36_0, ca1w36_1, ca1w36_2, fa1w36_0, fa1w36_1, fa1w36_2⟩ := Va1w36.out.open3
    obtain ⟨lww36, cww36_0, fww36_0⟩ := Vww36.out.open1
    obtain ⟨lxw36, cxw36_0, cxw36_1, cxw36_2, fxw36_0, fxw36_1, fxw36_2⟩ := Vxw36.out.open3
    obtain ⟨lyw36, cyw36_0, cyw36_1, cyw36_2, fyw36_0, fyw36_1, fyw36_2⟩ := Vyw36.out.open3
    obtain ⟨lgw36, cgw36_0, fgw36_0⟩ := Vgw36.out.open1
    have B9 := hbw36
    refine hK.out _ _ ?_ (fun hHeld => ?_)
    · (first | exact ⟨VB.step (hHeld.1) B9, VB.step (hHeld.2) B9⟩ | exact ⟨VB.alloc (hHeld.1) _, VB.alloc (hHeld.2) _⟩ | exact ⟨VB.drew (VB.alloc (show VB w33 _ _ from hHeld.1) _), VB.drew (VB.alloc (show VB w33 _ _ from hHeld.2) _)⟩ | exact ⟨VB.drew Vyw33.out, VB.drew Va1w33.out⟩)
    clear hK K
    try simp only [Act.put, List.setIfInBounds_toArray, List.set_cons_zero, List.set_cons_succ]
    refine takeL (i := 4) (oi := ?_) (v := ?_) ?_ (by kernel_rfl) (by kernel_rfl) (by kernel_rfl) (by kernel_rfl) ?_ (Or.inl ⟨?_, ?_⟩) (by assumption) ?_
    rotate_left 2
    · (simp only [List.getElem?_toArray, List.getElem?_cons_succ, List.getElem?_cons_zero]; rfl)
    · exact fun _ _ _ h => h
    · rfl
    · (intro w hSw; (try dsimp only at hSw); obtain ⟨S0, S1⟩ := hSw; obtain ⟨l0S, c0S0, c0S1, c0S2, _⟩ := S0.open3; obtain ⟨l1S, c1S0, c1S1, c1S2, _⟩ := S1.open3; clear S0 S1; go_simp; (try with_reducible rfl))
    try simp only [Act.put, List.setIfInBounds_toArray, List.set_cons_zero, List.set_cons_succ]
    refine doneL (by kernel_rfl) ?_ _
    clear Itw36
    go_wp2_with fail
    refine (markImage_any _ _ _ _ _ _ _ zs0 1 _ Ixw36.out (by omega) (by omega)).mono ?_
    rintro e w37 ⟨rfl, Ow37, how37⟩
    clear la0w36 ca0w36_0 ca0w36_1 ca0w36_2 fa0w36_0 fa0w36_1 fa0w36_2 la1w36 ca1w36_0 ca1w36_1 ca1w36_2 fa1w36_0 fa1w36_1 fa1w36_2 lww36 cww36_0 fww36_0 lxw36 cxw36_0 cxw36_1 cxw36_2 fxw36_0 fxw36_1 fxw36_2 lyw36 cyw36_0 cyw36_1 cyw36_2 fyw36_0 fyw36_1 fyw36_2 lgw36 cgw36_0 fgw36_0
    have bbw37 := Lib.hid (below_out bbw36.out how37 (by first | omega | (have := bbw36.out.size; omega)) bbw36.out.size)
    have hzw37 := how37.size
    have Va0w37 := Lib.hid (Va0w36.out.out how37 (by omega))
    have Va1w37 := Lib.hid (Va1w36.out.out how37 (by omega))
    have Vww37 := Lib.hid (Vww36.out.out how37 (by omega))
    have Vxw37 := Lib.hid (Vxw36.out.out how37 (by omega))
    have Vyw37 := Lib.hid (Vyw36.out.out how37 (by omega))
    have Vgw37 := Lib.hid (Vgw36.out.out how37 (by omega))
    have Iww37 : Hid _ := Lib.hid (Iww36.out.out how37 (by omega))
    have Iyw37 : Hid _ := Lib.hid (Iyw36.out.out how37 (by omega))
    have Igw37 : Hid _ := Lib.hid (Igw36.out.out how37 (by omega))
    have Ixw37 := Lib.hid Ow37
    clear Ow37
    clear Va0w36
    clear Va1w36
    clear Vww36
    clear Vxw36
    clear Vyw36
    clear Vgw36
    clear Iww36
    clear Ixw36
    clear Iyw36
    clear Igw36
    obtain ⟨la0w37, ca0w37_0, ca0w37_1, ca0w37_2, fa0w37_0, fa0w37_1, fa0w37_2⟩ := Va0w37.out.open3
    obtain ⟨la1w37, ca1w37_0, ca1w37_1, ca1w37_2, fa1w37_0, fa1w37_1, fa1w37_2⟩ := Va1w37.out.open3
    obtain ⟨lww37, cww37_0, fww37_0⟩ := Vww37.out.open1
    obtain ⟨lxw37, cxw37_0, cxw37_1, cxw37_2, fxw37_0, fxw37_1, fxw37_2⟩ := Vxw37.out.open3
    obtain ⟨lyw37, cyw37_0, cyw37_1, cyw37_2, fyw37_0, fyw37_1, fyw37_2⟩ := Vyw37.out.open3
    obtain ⟨lgw37, cgw37_0, fgw37_0⟩ := Vgw37.out.open1
    go_wp2_with fail
    refine (markImage_any _ _ _ _ _ _ _ zs1 (1 + (zs0.length : Int)) _ Iyw37.out (by omega) (by omega)).mono ?_
    rintro e w38 ⟨rfl, Ow38, how38⟩
    clear la0w37 ca0w37_0 ca0w37_1 ca0w37_2 fa0w37_0 fa0w37_1 fa0w37_2 la1w37 ca1w37_0 ca1w37_1 ca1w37_2 fa1w37_0 fa1w37_1 fa1w37_2 lww37 cww37_0 fww37_0 lxw37 cxw37_0 cxw37_1 cxw37_2 fxw37_0 fxw37_1 fxw37_2 lyw37 cyw37_0 cyw37_1 cyw37_2 fyw37_0 fyw37_1 fyw37_2 lgw37 cgw37_0 fgw37_0
    have bbw38 := Lib.hid (below_out bbw37.out how38 (by first | omega | (have := bbw37.out.size; omega)) bbw37.out.size)
    have hzw38 := how38.size
    have Va0w38 := Lib.hid (Va0w37.out.out how38 (by omega))
    have Va1w38 := Lib.hid (Va1w37.out.out how38 (by omega))
    have Vww38 := Lib.hid (Vww37.out.out how38 (by omega))
    have Vxw38 := Lib.hid (Vxw37.out.out how38 (by omega))
    have Vyw38 := Lib.hid (Vyw37.out.out how38 (by omega))
    have Vgw38 := Lib.hid (Vgw37.out.out how38 (by omega))
    have Iww38 : Hid _ := Lib.hid (Iww37.out.out how38 (by omega))
    have Ixw38 : Hid _ := Lib.hid (Ixw37.out.out how38 (by omega))
    have Igw38 : Hid _ := Lib.hid (Igw37.out.out how38 (by omega))
    have Iyw38 := Lib.hid Ow38
    clear Ow38
    clear Va0w37
    clear Va1w37
    clear Vww37
    clear Vxw37
    clear Vyw37
    clear Vgw37
    clear Iww37
    clear Ixw37
    clear Iyw37
    clear Igw37
    obtain ⟨la0w38, ca0w38_0, ca0w38_1, ca0w38_2, fa0w38_0, fa0w38_1, fa0w38_2⟩ := Va0w38.out.open3
    obtain ⟨la1w38, ca1w38_0, ca1w38_1, ca1w38_2, fa1w38_0, fa1w38_1, fa1w38_2⟩ := Va1w38.out.open3
    obtain ⟨lww38, cww38_0, fww38_0⟩ := Vww38.out.open1
    obtain ⟨lxw38, cxw38_0, cxw38_1, cxw38_2, fxw38_0, fxw38_1, fxw38_2⟩ := Vxw38.out.open3
    obtain ⟨lyw38, cyw38_0, cyw38_1, cyw38_2, fyw38_0, fyw38_1, fyw38_2⟩ := Vyw38.out.open3
    obtain ⟨lgw38, cgw38_0, fgw38_0⟩ := Vgw38.out.open1
    go_wp2_with fail
    refine (eqRegion_same _ _ _ _ _ _ (Pl.diffOf ⟨ix0, iy0, zs0⟩ ⟨ix1, iy1, zs1⟩) _ (Recs.arg Igw38.out) (Recs.arg Iww38.out) rfl rfl (by omega) (by omega)).mono ?_
    rintro e w39 ⟨rfl, hbw39⟩
    clear la0w38 ca0w38_0 ca0w38_1 ca0w38_2 fa0w38_0 fa0w38_1 fa0w38_2 la1w38 ca1w38_0 ca1w38_1 ca1w38_2 fa1w38_0 fa1w38_1 fa1w38_2 lww38 cww38_0 fww38_0 lxw38 cxw38_0 cxw38_1 cxw38_2 fxw38_0 fxw38_1 fxw38_2 lyw38 cyw38_0 cyw38_1 cyw38_2 fyw38_0 fyw38_1 fyw38_2 lgw38 cgw38_0 fgw38_0
    have bbw39 := Lib.hid (later bbw38.out hbw39)
    have hzw39 := hbw39.size
    have Va0w39 := Lib.hid (Va0w38.out.step hbw39)
    have Va1w39 := Lib.hid (Va1w38.out.step hbw39)
    have Vww39 := Lib.hid (Vww38.out.step hbw39)
    have Vxw39 := Lib.hid (Vxw38.out.step hbw39)
    have Vyw39 := Lib.hid (Vyw38.out.step hbw39)
    have Vgw39 := Lib.hid (Vgw38.out.step hbw39)
    have Iww39 : Hid _ := Lib.hid (Iww38.out.step hbw39)
    have Ixw39 : Hid _ := Lib.hid (Ixw38.out.step hbw39)
    have Iyw39 : Hid _ := Lib.hid (Iyw38.out.step hbw39)
    have Igw39 : Hid _ := Lib.hid (Igw38.out.step hbw39)
    clear Va0w38
    clear Va1w38
    clear Vww38
    clear Vxw38
    clear Vyw38
    clear Vgw38
    clear Iww38
    clear Ixw38
    clear Iyw38
    clear Igw38
    obtain ⟨la0w39, ca0w39_0, ca0w39_1, ca0w39_2, fa0w39_0, fa0w39_1, fa0w39_2⟩ := Va0w39.out.open3
    obtain ⟨la1w39, ca1w39_0, ca1w39_1, ca1w39_2, fa1w39_0, fa1w39_1, fa1w39_2⟩ := Va1w39.out.open3
    obtain ⟨lww39, cww39_0, fww39_0⟩ := Vww39.out.open1
    obtain ⟨lxw39, cxw39_0, cxw39_1, cxw39_2, fxw39_0, fxw39_1, fxw39_2⟩ := Vxw39.out.open3
    obtain ⟨lyw39, cyw39_0, cyw39_1, cyw39_2, fyw39_0, fyw39_1, fyw39_2⟩ := Vyw39.out.open3
    obtain ⟨lgw39, cgw39_0, fgw39_0⟩ := Vgw39.out.open1
    go_wp2_with fail
    refine (markRegion_any _ _ _ _ _ (Pl.diffOf ⟨ix0, iy0, zs0⟩ ⟨ix1, iy1, zs1⟩) 1 _ Igw39.out (by omega) (by omega)).mono ?_
    rintro e w40 ⟨rfl, Ow40, how40⟩
    clear la0w39 ca0w39_0 ca0w39_1 ca0w39_2 fa0w39_0 fa0w39_1 fa0w39_2 la1w39 ca1w39_0 ca1w39_1 ca1w39_2 fa1w39_0 fa1w39_1 fa1w39_2 lww39 cww39_0 fww39_0 lxw39 cxw39_0 cxw39_1 cxw39_2 fxw39_0 fxw39_1 fxw39_2 lyw39 cyw39_0 cyw39_1 cyw39_2 fyw39_0 fyw39_1 fyw39_2 lgw39 cgw39_0 fgw39_0
    have bbw40 := Lib.hid (below_out bbw39.out how40 (by first | omega | (have := bbw39.out.size; omega)) bbw39.out.size)
    have hzw40 := how40.size
    have Va0w40 := Lib.hid (Va0w39.out.out how40 (by omega))
    have Va1w40 := Lib.hid (Va1w39.out.out how40 (by omega))
    have Vww40 := Lib.hid (Vww39.out.out how40 (by omega))
    have Vxw40 := Lib.hid (Vxw39.out.out how40 (by omega))
    have Vyw40 := Lib.hid (Vyw39.out.out how40 (by omega))
    have Vgw40 := Lib.hid (Vgw39.out.out how40 (by omega))
    have Iww40 : Hid _ := Lib.hid (Iww39.out.out how40 (by omega))
    have Ixw40 : Hid _ := Lib.hid (Ixw39.out.out how40 (by omega))
    have Iyw40 : Hid _ := Lib.hid (Iyw39.out.out how40 (by omega))
    have Igw40 := Lib.hid Ow40
    clear Ow40
    clear Va0w39
    clear Va1w39
    clear Vww39
    clear Vxw39
    clear Vyw39
    clear Vgw39
    clear Iww39
    clear Ixw39
    clear Iyw39
    clear Igw39
    obtain ⟨la0w40, ca0w40_0, ca0w40_1, ca0w40_2, fa0w40_0, fa0w40_1, fa0w40_2⟩ := Va0w40.out.open3
    obtain ⟨la1w40, ca1w40_0, ca1w40_1, ca1w40_2, fa1w40_0, fa1w40_1, fa1w40_2⟩ := Va1w40.out.open3
    obtain ⟨lww40, cww40_0, fww40_0⟩ := Vww40.out.open1
    obtain ⟨lxw40, cxw40_0, cxw40_1, cxw40_2, fxw40_0, fxw40_1, fxw40_2⟩ := Vxw40.out.open3
    obtain ⟨lyw40, cyw40_0, cyw40_1, cyw40_2, fyw40_0, fyw40_1, fyw40_2⟩ := Vyw40.out.open3
    obtain ⟨lgw40, cgw40_0, fgw40_0⟩ := Vgw40.out.open1
    go_wp2_with fail
    refine (heldRegion_same _ _ _ 1 _ (Recs.arg Igw40.out) (by omega) (by omega)).mono ?_
    rintro e w41 ⟨rfl, hbw41⟩
    clear la0w40 ca0w40_0 ca0w40_1 ca0w40_2 fa0w40_0 fa0w40_1 fa0w40_2 la1w40 ca1w40_0 ca1w40_1 ca1w40_2 fa1w40_0 fa1w40_1 fa1w40_2 lww40 cww40_0 fww40_0 lxw40 cxw40_0 cxw40_1 cxw40_2 fxw40_0 fxw40_1 fxw40_2 lyw40 cyw40_0 cyw40_1 cyw40_2 fyw40_0 fyw40_1 fyw40_2 lgw40 cgw40_0 fgw40_0
    have bbw41 := Lib.hid (later bbw40.out hbw41)
    have hzw41 := hbw41.size
    have Va0w41 := Lib.hid (Va0w40.out.step hbw41)
    have Va1w41 := Lib.hid (Va1w40.out.step hbw41)
    have Vww41 := Lib.hid (Vww40.out.step hbw41)
    have Vxw41 := Lib.hid (Vxw40.out.step hbw41)
    have Vyw41 := Lib.hid (Vyw40.out.step hbw41)
    have Vgw41 := Lib.hid (Vgw40.out.step hbw41)
    have Iww41 : Hid _ := Lib.hid (Iww40.out.step hbw41)
    have Ixw41 : Hid _ := Lib.hid (Ixw40.out.step hbw41)
    have Iyw41 : Hid _ := Lib.hid (Iyw40.out.step hbw41)
    have Igw41 : Hid _ := Lib.hid (Igw40.out.step hbw41)
    clear Va0w40
    clear Va1w40
    clear Vww40
    clear Vxw40
    clear Vyw40
    clear Vgw40
    clear Iww40
    clear Ixw40
    clear Iyw40
    clear Igw40
    obtain ⟨la0w41, ca0w41_0, ca0w41_1, ca0w41_2, fa0w41_0, fa0w41_1, fa0w41_2⟩ := Va0w41.out.open3
    obtain ⟨la1w41, ca1w41_0, ca1w41_1, ca1w41_2, fa1w41_0, fa1w41_1, fa1w41_2⟩ := Va1w41.out.open3
    obtain ⟨lww41, cww41_0, fww41_0⟩ := Vww41.out.open1
    obtain ⟨lxw41, cxw41_0, cxw41_1, cxw41_2, fxw41_0, fxw41_1, fxw41_2⟩ := Vxw41.out.open3
    obtain ⟨lyw41, cyw41_0, cyw41_1, cyw41_2, fyw41_0, fyw41_1, fyw41_2⟩ := Vyw41.out.open3
    obtain ⟨lgw41, cgw41_0, fgw41_0⟩ := Vgw41.out.open1
    go_wp2_with fail
    go_cut [13] (fun s13 wx => ∃ b : Nat, s13 = .pointer (some ⟨b, 0, none⟩) ∧ NewVarR w41 wx b (Pl.diffOf ⟨ix0, iy0, zs0⟩ ⟨ix1, iy1, zs1⟩))
    case first =>
      clear Iww41
      clear Ixw41
      clear Iyw41
      clear Igw41
      clear la0w41 ca0w41_0 ca0w41_1 ca0w41_2 fa0w41_0 fa0w41_1 fa0w41_2 la1w41 ca1w41_0 ca1w41_1 ca1w41_2 fa1w41_0 fa1w41_1 fa1w41_2 lww41 cww41_0 fww41_0 lxw41 cxw41_0 cxw41_1 cxw41_2 fxw41_0 fxw41_1 fxw41_2 lyw41 cyw41_0 cyw41_1 cyw41_2 fyw41_0 fyw41_1 fyw41_2 lgw41 cgw41_0 fgw41_0
      have bbw42 : Hid (Below w.heap.size w w41.drew) := Lib.hid (Below.drew bbw41.out)
      have bjw42 : Hid (Below w41.heap.size w41 w41.drew) := Lib.hid (Below.drew (Below.refl _ _))
      have hzw42 : w41.heap.size ≤ w41.drew.heap.size := Nat.le_refl _
      have Va0w42 := Lib.hid (VB.drew Va0w41.out)
      have Va1w42 := Lib.hid (VB.drew Va1w41.out)
      have Vww42 := Lib.hid (VB.drew Vww41.out)
      have Vxw42 := Lib.hid (VB.drew Vxw41.out)
      have Vyw42 := Lib.hid (VB.drew Vyw41.out)
      have Vgw42 := Lib.hid (VB.drew Vgw41.out)
      refine regionL (S := (fun w' => VB w' (w.heap.size) [.int .i64 ix0, .int .i64 iy0, .slice A0 n0 c0] ∧ VB w' (w.heap.size + 1) [.int .i64 ix1, .int .i64 iy1, .slice A1 n1 c1])) (L := 6) (by kernel_rfl) ?_ (fun hHeld => ?_)
      · (first | exact ⟨VB.step (hHeld.1) B9, VB.step (hHeld.2) B9⟩ | exact ⟨VB.drew Va0w41.out, VB.drew Va1w41.out⟩)
      refine takeL (i := 0) (oi := ?_) (v := ?_) ?_ (by kernel_rfl) (by kernel_rfl) (by kernel_rfl) (by kernel_rfl) ?_ (Or.inl ⟨?_, ?_⟩) (by assumption) ?_
      rotate_left 2
      · (simp only [List.getElem?_toArray, List.getElem?_cons_succ, List.getElem?_cons_zero]; rfl)
      · exact fun _ _ _ h => h
      · rfl
      · (intro w hSw; (try dsimp only at hSw); obtain ⟨S0, S1⟩ := hSw; obtain ⟨l0S, c0S0, c0S1, c0S2, _⟩ := S0.open3; obtain ⟨l1S, c1S0, c1S1, c1S2, _⟩ := S1.open3; clear S0 S1; go_simp; (try with_reducible rfl))
      try simp only [Act.put, List.setIfInBounds_toArray, List.set_cons_zero, List.set_cons_succ]
      refine takeL (i := 2) (oi := ?_) (v := ?_) ?_ (by kernel_rfl) (by kernel_rfl) (by kernel_rfl) (by kernel_rfl) ?_ (Or.inl ⟨?_, ?_⟩) (by assumption) ?_
      rotate_left 2
      · (simp only [List.getElem?_toArray, List.getElem?_cons_succ, List.getElem?_cons_zero]; rfl)
      · exact fun _ _ _ h => h
      · rfl
      · (intro w hSw; (try dsimp only at hSw); obtain ⟨S0, S1⟩ := hSw; obtain ⟨l0S, c0S0, c0S1, c0S2, _⟩ := S0.open3; obtain ⟨l1S, c1S0, c1S1, c1S2, _⟩ := S1.open3; clear S0 S1; go_simp; (try with_reducible rfl))
      try simp only [Act.put, List.setIfInBounds_toArray, List.set_cons_zero, List.set_cons_succ]
      refine readyL (rs := [1, 5]) (by kernel_rfl) (by simp) ?_
      refine AllReadyL.cons (o := ?_) ?_ (fun K hK => ?_) ?_
      rotate_left
      · (simp only [List.getElem?_toArray, List.getElem?_cons_succ, List.getElem?_cons_zero]; rfl)
      · go_simp
        go_at_call 8
        ((with_reducible refine (toImage_any _ _ _ _ _ zs0 _ (arg0.out.below bbw42.out) L0.out hsm0).mono ?_))
        rintro e w43 ⟨Aw43, kw43, rfl, Ow43, hbw43⟩
        have Pw43 := Lib.hid Ow43
        clear Ow43
        have bbw43 := Lib.hid (later bbw42.out hbw43)
        have hzw43 := hbw43.size
        have Va0w43 := Lib.hid (Va0w42.out.step hbw43)
        have Va1w43 := Lib.hid (Va1w42.out.step hbw43)
        have Vww43 := Lib.hid (Vww42.out.step hbw43)
        have Vxw43 := Lib.hid (Vxw42.out.step hbw43)
        have Vyw43 := Lib.hid (Vyw42.out.step hbw43)
        have Vgw43 := Lib.hid (Vgw42.out.step hbw43)
        clear Va0w42
        clear Va1w42
        clear Vww42
        clear Vxw42
        clear Vyw42
        clear Vgw42
        obtain ⟨la0w43, ca0w43_0, ca0w43_1, ca0w43_2, fa0w43_0, fa0w43_1, fa0w43_2⟩ := Va0w43.out.open3
        obtain ⟨la1w43, ca1w43_0, ca1w43_1, ca1w43_2, fa1w43_0, fa1w43_1, fa1w43_2⟩ := Va1w43.out.open3
        obtain ⟨lww43, cww43_0, fww43_0⟩ := Vww43.out.open1
        obtain ⟨lxw43, cxw43_0, cxw43_1, cxw43_2, fxw43_0, fxw43_1, fxw43_2⟩ := Vxw43.out.open3
        obtain ⟨lyw43, cyw43_0, cyw43_1, cyw43_2, fyw43_0, fyw43_1, fyw43_2⟩ := Vyw43.out.open3
        obtain ⟨lgw43, cgw43_0, fgw43_0⟩ := Vgw43.out.open1
        have Isw43 := Pw43
        clear Pw43
        have bjw43 := Lib.hid (later bjw42.out hbw43)
        have B9 := hbw43
        refine hK.out _ _ ?_ (fun hHeld => ?_)
        · (first | exact ⟨VB.step (hHeld.1) B9, VB.step (hHeld.2) B9⟩ | exact ⟨VB.drew Va0w41.out, VB.drew Va1w41.out⟩)
        clear hK K
        try simp only [Act.put, List.setIfInBounds_toArray, List.set_cons_zero, List.set_cons_succ]
        refine readyL (rs := [3, 5]) (by kernel_rfl) (by simp) ?_
        refine AllReadyL.cons (o := ?_) ?_ (fun K hK => ?_) ?_
        rotate_left
        · (simp only [List.getElem?_toArray, List.getElem?_cons_succ, List.getElem?_cons_zero]; rfl)
        · go_simp
          go_at_call 8
          ((with_reducible refine (toImage_any _ _ _ _ _ zs1 _ (arg1.out.below bbw43.out) L1.out hsm1).mono ?_))
          rintro e w44 ⟨Aw44, kw44, rfl, Ow44, hbw44⟩
          have Pw44 := Lib.hid Ow44
          clear Ow44
          clear la0w43 ca0w43_0 ca0w43_1 ca0w43_2 fa0w43_0 fa0w43_1 fa0w43_2 la1w43 ca1w43_0 ca1w43_1 ca1w43_2 fa1w43_0 fa1w43_1 fa1w43_2 lww43 cww43_0 fww43_0 lxw43 cxw43_0 cxw43_1 cxw43_2 fxw43_0 fxw43_1 fxw43_2 lyw43 cyw43_0 cyw43_1 cyw43_2 fyw43_0 fyw43_1 fyw43_2 lgw43 cgw43_0 fgw43_0
          have bbw44 := Lib.hid (later bbw43.out hbw44)
          have hzw44 := hbw44.size
          have Va0w44 := Lib.hid (Va0w43.out.step hbw44)
          have Va1w44 := Lib.hid (Va1w43.out.step hbw44)
          have Vww44 := Lib.hid (Vww43.out.step hbw44)
          have Vxw44 := Lib.hid (Vxw43.out.step hbw44)
          have Vyw44 := Lib.hid (Vyw43.out.step hbw44)
          have Vgw44 := Lib.hid (Vgw43.out.step hbw44)
          have Isw44 : Hid _ := Lib.hid (Isw43.out.step hbw44)
          clear Va0w43
          clear Va1w43
          clear Vww43
          clear Vxw43
          clear Vyw43
          clear Vgw43
          clear Isw43
          obtain ⟨la0w44, ca0w44_0, ca0w44_1, ca0w44_2, fa0w44_0, fa0w44_1, fa0w44_2⟩ := Va0w44.out.open3
          obtain ⟨la1w44, ca1w44_0, ca1w44_1, ca1w44_2, fa1w44_0, fa1w44_1, fa1w44_2⟩ := Va1w44.out.open3
          obtain ⟨lww44, cww44_0, fww44_0⟩ := Vww44.out.open1
          obtain ⟨lxw44, cxw44_0, cxw44_1, cxw44_2, fxw44_0, fxw44_1, fxw44_2⟩ := Vxw44.out.open3
          obtain ⟨lyw44, cyw44_0, cyw44_1, cyw44_2, fyw44_0, fyw44_1, fyw44_2⟩ := Vyw44.out.open3
          obtain ⟨lgw44, cgw44_0, fgw44_0⟩ := Vgw44.out.open1
          have Itw44 := Pw44
          clear Pw44
          have bjw44 := Lib.hid (later bjw43.out hbw44)
          have B9 := hbw44
          refine hK.out _ _ ?_ (fun hHeld => ?_)
          · (first | exact ⟨VB.step (hHeld.1) B9, VB.step (hHeld.2) B9⟩ | exact ⟨VB.drew Va0w41.out, VB.drew Va1w41.out⟩)
          clear hK K
          try simp only [Act.put, List.setIfInBounds_toArray, List.set_cons_zero, List.set_cons_succ]
          refine readyL (rs := [4, 5]) (by kernel_rfl) (by simp) ?_
          refine AllReadyL.cons (o := ?_) ?_ (fun K hK => ?_) ?_
          rotate_left
          · (simp only [List.getElem?_toArray, List.getElem?_cons_succ, List.getElem?_cons_zero]; rfl)
          · go_simp
            go_at_call 9
            ((with_reducible refine (implDifference ix0 iy0 ix1 iy1 _ _ _ _ _ _ _ _ _ _ zs0 zs1 _ Isw44.out Itw44.out).mono ?_))
            rintro e w45 ⟨Aw45, kw45, rfl, Ow45, hbw45⟩
            have Pw45 := Lib.hid Ow45
            clear Ow45
            clear la0w44 ca0w44_0 ca0w44_1 ca0w44_2 fa0w44_0 fa0w44_1 fa0w44_2 la1w44 ca1w44_0 ca1w44_1 ca1w44_2 fa1w44_0 fa1w44_1 fa1w44_2 lww44 cww44_0 fww44_0 lxw44 cxw44_0 cxw44_1 cxw44_2 fxw44_0 fxw44_1 fxw44_2 lyw44 cyw44_0 cyw44_1 cyw44_2 fyw44_0 fyw44_1 fyw44_2 lgw44 cgw44_0 fgw44_0
            have bbw45 := Lib.hid (later bbw44.out hbw45)
            have hzw45 := hbw45.size
            have Va0w45 := Lib.hid (Va0w44.out.step hbw45)
            have Va1w45 := Lib.hid (Va1w44.out.step hbw45)
            have Vww45 := Lib.hid (Vww44.out.step hbw45)
            have Vxw45 := Lib.hid (Vxw44.out.step hbw45)
            have Vyw45 := Lib.hid (Vyw44.out.step hbw45)
            have Vgw45 := Lib.hid (Vgw44.out.step hbw45)
            have Isw45 : Hid _ := Lib.hid (Isw44.out.step hbw45)
            have Itw45 : Hid _ := Lib.hid (Itw44.out.step hbw45)
            clear Va0w44
            clear Va1w44
            clear Vww44
            clear Vxw44
            clear Vyw44
            clear Vgw44
            clear Isw44
            clear Itw44
            obtain ⟨la0w45, ca0w45_0, ca0w45_1, ca0w45_2, fa0w45_0, fa0w45_1, fa0w45_2⟩ := Va0w45.out.open3
            obtain ⟨la1w45, ca1w45_0, ca1w45_1, ca1w45_2, fa1w45_0, fa1w45_1, fa1w45_2⟩ := Va1w45.out.open3
            obtain ⟨lww45, cww45_0, fww45_0⟩ := Vww45.out.open1
            obtain ⟨lxw45, cxw45_0, cxw45_1, cxw45_2, fxw45_0, fxw45_1, fxw45_2⟩ := Vxw45.out.open3
            obtain ⟨lyw45, cyw45_0, cyw45_1, cyw45_2, fyw45_0, fyw45_1, fyw45_2⟩ := Vyw45.out.open3
            obtain ⟨lgw45, cgw45_0, fgw45_0⟩ := Vgw45.out.open1
            have Ih'w45 := Pw45
            clear Pw45
            have bjw45 := Lib.hid (later bjw44.out hbw45)
            have B9 := hbw45
            refine hK.out _ _ ?_ (fun hHeld => ?_)
            · (first | exact ⟨VB.step (hHeld.1) B9, VB.step (hHeld.2) B9⟩ | exact ⟨VB.drew Va0w41.out, VB.drew Va1w41.out⟩)
            clear hK K
            try simp only [Act.put, List.setIfInBounds_toArray, List.set_cons_zero, List.set_cons_succ]
            refine readyL (rs := [5]) (by kernel_rfl) (by simp) ?_
            refine AllReadyL.cons (o := ?_) ?_ (fun K hK => ?_) AllReadyL.none_
            rotate_left
            · (simp only [List.getElem?_toArray, List.getElem?_cons_succ, List.getElem?_cons_zero]; rfl)
            go_simp
            have hbw46 : Below (w45).heap.size (w45) (w45.alloc (.cells #[.slice none 0 0] 28 (0, 0))) := by first | exact (Below.refl _ _).alloc (Nat.le_refl _) _ | exact (show Below (w41.drew).heap.size w41.drew (w41.drew.alloc (.cells #[.slice none 0 0] 28 (0, 0))) from (Below.refl _ _).alloc (Nat.le_refl _) _)
            have haw46 : w41.heap.size ≤ w45.heap.size := bjw45.out.size
            have hyw46 : (w45).heap.size < (w45.alloc (.cells #[.slice none 0 0] 28 (0, 0))).heap.size := by simp
            have Zw46 : Hid (VB (w45.alloc (.cells #[.slice none 0 0] 28 (0, 0))) (w45.heap.size) [.slice none 0 0]) := Lib.hid (by first | exact VB.new (cs := [.slice none 0 0]) rfl | exact VB.drew (VB.new (cs := [.slice none 0 0]) rfl))
            generalize (w45.alloc (.cells #[.slice none 0 0] 28 (0, 0))) = w46 at *
            clear la0w45 ca0w45_0 ca0w45_1 ca0w45_2 fa0w45_0 fa0w45_1 fa0w45_2 la1w45 ca1w45_0 ca1w45_1 ca1w45_2 fa1w45_0 fa1w45_1 fa1w45_2 lww45 cww45_0 fww45_0 lxw45 cxw45_0 cxw45_1 cxw45_2 fxw45_0 fxw45_1 fxw45_2 lyw45 cyw45_0 cyw45_1 cyw45_2 fyw45_0 fyw45_1 fyw45_2 lgw45 cgw45_0 fgw45_0
            have bbw46 := Lib.hid (later bbw45.out hbw46)
            have hzw46 := hbw46.size
            have Va0w46 := Lib.hid (Va0w45.out.step hbw46)
            have Va1w46 := Lib.hid (Va1w45.out.step hbw46)
            have Vww46 := Lib.hid (Vww45.out.step hbw46)
            have Vxw46 := Lib.hid (Vxw45.out.step hbw46)
            have Vyw46 := Lib.hid (Vyw45.out.step hbw46)
            have Vgw46 := Lib.hid (Vgw45.out.step hbw46)
            have Isw46 : Hid _ := Lib.hid (Isw45.out.step hbw46)
            have Itw46 : Hid _ := Lib.hid (Itw45.out.step hbw46)
            have Ih'w46 : Hid _ := Lib.hid (Ih'w45.out.step hbw46)
            clear Va0w45
            clear Va1w45
            clear Vww45
            clear Vxw45
            clear Vyw45
            clear Vgw45
            clear Isw45
            clear Itw45
            clear Ih'w45
            obtain ⟨la0w46, ca0w46_0, ca0w46_1, ca0w46_2, fa0w46_0, fa0w46_1, fa0w46_2⟩ := Va0w46.out.open3
            obtain ⟨la1w46, ca1w46_0, ca1w46_1, ca1w46_2, fa1w46_0, fa1w46_1, fa1w46_2⟩ := Va1w46.out.open3
            obtain ⟨lww46, cww46_0, fww46_0⟩ := Vww46.out.open1
            obtain ⟨lxw46, cxw46_0, cxw46_1, cxw46_2, fxw46_0, fxw46_1, fxw46_2⟩ := Vxw46.out.open3
            obtain ⟨lyw46, cyw46_0, cyw46_1, cyw46_2, fyw46_0, fyw46_1, fyw46_2⟩ := Vyw46.out.open3
            obtain ⟨lgw46, cgw46_0, fgw46_0⟩ := Vgw46.out.open1
            have bjw46 := Lib.hid (later bjw45.out hbw46)
            clear la0w46 ca0w46_0 ca0w46_1 ca0w46_2 fa0w46_0 fa0w46_1 fa0w46_2 la1w46 ca1w46_0 ca1w46_1 ca1w46_2 fa1w46_0 fa1w46_1 fa1w46_2 lww46 cww46_0 fww46_0 lxw46 cxw46_0 cxw46_1 cxw46_2 fxw46_0 fxw46_1 fxw46_2 lyw46 cyw46_0 cyw46_1 cyw46_2 fyw46_0 fyw46_1 fyw46_2 lgw46 cgw46_0 fgw46_0
            have Vhw46 := Zw46
            obtain ⟨la0w46, ca0w46_0, ca0w46_1, ca0w46_2, fa0w46_0, fa0w46_1, fa0w46_2⟩ := Va0w46.out.open3
            obtain ⟨la1w46, ca1w46_0, ca1w46_1, ca1w46_2, fa1w46_0, fa1w46_1, fa1w46_2⟩ := Va1w46.out.open3
            obtain ⟨lww46, cww46_0, fww46_0⟩ := Vww46.out.open1
            obtain ⟨lxw46, cxw46_0, cxw46_1, cxw46_2, fxw46_0, fxw46_1, fxw46_2⟩ := Vxw46.out.open3
            obtain ⟨lyw46, cyw46_0, cyw46_1, cyw46_2, fyw46_0, fyw46_1, fyw46_2⟩ := Vyw46.out.open3
            obtain ⟨lgw46, cgw46_0, fgw46_0⟩ := Vgw46.out.open1
            obtain ⟨lhw46, chw46_0, fhw46_0⟩ := Vhw46.out.open1
            have B9 := hbw46
            refine hK.out _ _ ?_ (fun hHeld => ?_)
            · (first | exact ⟨VB.step (hHeld.1) B9, VB.step (hHeld.2) B9⟩ | exact ⟨VB.drew Va0w41.out, VB.drew Va1w41.out⟩)
            clear hK K
            try simp only [Act.put, List.setIfInBounds_toArray, List.set_cons_zero, List.set_cons_succ]
            refine readyL (rs := [6]) (by kernel_rfl) (by simp) ?_
            refine AllReadyL.last (o := ?_) ?_ (fun K hK => ?_)
            rotate_left
            · (simp only [List.getElem?_toArray, List.getElem?_cons_succ, List.getElem?_cons_zero]; rfl)
            go_simp
            refine hK.out _ _ ?_
            clear hK K
            try simp only [Act.put, List.setIfInBounds_toArray, List.set_cons_zero, List.set_cons_succ]
            refine doneL (by kernel_rfl) ?_ _
            go_wp2_with fail
            go_meet
            have e1 : w41.heap.size ≤ w44.heap.size := bjw44.out.size
            have e2 : w45.heap.size ≤ w46.heap.size := Ih'w46.out.hi_le
            case rel => exact ⟨w45.heap.size, rfl, Aw45, kw45, w44.heap.size, w45.heap.size, by omega, e1, Nat.le_trans e2 (Nat.le_of_eq (size_setCell_eq _ _ _).symm), by omega, Vhw46.out.set 0 _, Own.far (p := ⟨w45.heap.size, 0, none⟩) Ih'w46.out (by show w45.heap.size < _ ∨ _ ≤ w45.heap.size; omega) _, bjw46.out.setCell (by show w41.heap.size ≤ w45.heap.size; omega) _⟩
          refine AllReadyL.cons (o := ?_) ?_ (fun K hK => ?_) ?_
          rotate_left
          · (simp only [List.getElem?_toArray, List.getElem?_cons_succ, List.getElem?_cons_zero]; rfl)
          · go_simp
            have hbw47 : Below (w44).heap.size (w44) (w44.alloc (.cells #[.slice none 0 0] 28 (0, 0))) := by first | exact (Below.refl _ _).alloc (Nat.le_refl _) _ | exact (show Below (w41.drew).heap.size w41.drew (w41.drew.alloc (.cells #[.slice none 0 0] 28 (0, 0))) from (Below.refl _ _).alloc (Nat.le_refl _) _)
            have haw47 : w41.heap.size ≤ w44.heap.size := bjw44.out.size
            have hyw47 : (w44).heap.size < (w44.alloc (.cells #[.slice none 0 0] 28 (0, 0))).heap.size := by simp
            have Zw47 : Hid (VB (w44.alloc (.cells #[.slice none 0 0] 28 (0, 0))) (w44.heap.size) [.slice none 0 0]) := Lib.hid (by first | exact VB.new (cs := [.slice none 0 0]) rfl | exact VB.drew (VB.new (cs := [.slice none 0 0]) rfl))
            generalize (w44.alloc (.cells #[.slice none 0 0] 28 (0, 0))) = w47 at *
            clear la0w44 ca0w44_0 ca0w44_1 ca0w44_2 fa0w44_0 fa0w44_1 fa0w44_2 la1w44 ca1w44_0 ca1w44_1 ca1w44_2 fa1w44_0 fa1w44_1 fa1w44_2 lww44 cww44_0 fww44_0 lxw44 cxw44_0 cxw44_1 cxw44_2 fxw44_0 fxw44_1 fxw44_2 lyw44 cyw44_0 cyw44_1 cyw44_2 fyw44_0 fyw44_1 fyw44_2 lgw44 cgw44_0 fgw44_0
            have bbw47 := Lib.hid (later bbw44.out hbw47)
            have hzw47 := hbw47.size
            have Va0w47 := Lib.hid (Va0w44.out.step hbw47)
            have Va1w47 := Lib.hid (Va1w44.out.step hbw47)
            have Vww47 := Lib.hid (Vww44.out.step hbw47)
            have Vxw47 := Lib.hid (Vxw44.out.step hbw47)
            have Vyw47 := Lib.hid (Vyw44.out.step hbw47)
            have Vgw47 := Lib.hid (Vgw44.out.step hbw47)
            have Isw47 : Hid _ := Lib.hid (Isw44.out.step hbw47)
            have Itw47 : Hid _ := Lib.hid (Itw44.out.step hbw47)
            clear Va0w44
            clear Va1w44
            clear Vww44
            clear Vxw44
            clear Vyw44
            clear Vgw44
            clear Isw44
            clear Itw44
            obtain ⟨la0w47, ca0w47_0, ca0w47_1, ca0w47_2, fa0w47_0, fa0w47_1, fa0w47_2⟩ := Va0w47.out.open3
            obtain ⟨la1w47, ca1w47_0, ca1w47_1, ca1w47_2, fa1w47_0, fa1w47_1, fa1w47_2⟩ := Va1w47.out.open3
            obtain ⟨lww47, cww47_0, fww47_0⟩ := Vww47.out.open1
            obtain ⟨lxw47, cxw47_0, cxw47_1, cxw47_2, fxw47_0, fxw47_1, fxw47_2⟩ := Vxw47.out.open3
            obtain ⟨lyw47, cyw47_0, cyw47_1, cyw47_2, fyw47_0, fyw47_1, fyw47_2⟩ := Vyw47.out.open3
            obtain ⟨lgw47, cgw47_0, fgw47_0⟩ := Vgw47.out.open1
            have bjw47 := Lib.hid (later bjw44.out hbw47)
            clear la0w47 ca0w47_0 ca0w47_1 ca0w47_2 fa0w47_0 fa0w47_1 fa0w47_2 la1w47 ca1w47_0 ca1w47_1 ca1w47_2 fa1w47_0 fa1w47_1 fa1w47_2 lww47 cww47_0 fww47_0 lxw47 cxw47_0 cxw47_1 cxw47_2 fxw47_0 fxw47_1 fxw47_2 lyw47 cyw47_0 cyw47_1 cyw47_2 fyw47_0 fyw47_1 fyw47_2 lgw47 cgw47_0 fgw47_0
            have Vhw47 := Zw47
            obtain ⟨la0w47, ca0w47_0, ca0w47_1, ca0w47_2, fa0w47_0, fa0w47_1, fa0w47_2⟩ := Va0w47.out.open3
            obtain ⟨la1w47, ca1w47_0, ca1w47_1, ca1w47_2, fa1w47_0, fa1w47_1, fa1w47_2⟩ := Va1w47.out.open3
            obtain ⟨lww47, cww47_0, fww47_0⟩ := Vww47.out.open1
            obtain ⟨lxw47, cxw47_0, cxw47_1, cxw47_2, fxw47_0, fxw47_1, fxw47_2⟩ := Vxw47.out.open3
            obtain ⟨lyw47, cyw47_0, cyw47_1, cyw47_2, fyw47_0, fyw47_1, fyw47_2⟩ := Vyw47.out.open3
            obtain ⟨lgw47, cgw47_0, fgw47_0⟩ := Vgw47.out.open1
            obtain ⟨lhw47, chw47_0, fhw47_0⟩ := Vhw47.out.open1
            have B9 := hbw47
            refine hK.out _ _ ?_ (fun hHeld => ?_)
            · (first | exact ⟨VB.step (hHeld.1) B9, VB.step (hHeld.2) B9⟩ | exact ⟨VB.drew Va0w41.out, VB.drew Va1w41.out⟩)
            clear hK K
            try simp only [Act.put, List.setIfInBounds_toArray, List.set_cons_zero, List.set_cons_succ]
            refine readyL (rs := [4]) (by kernel_rfl) (by simp) ?_
            refine AllReadyL.cons (o := ?_) ?_ (fun K hK => ?_) AllReadyL.none_
            rotate_left
            · (simp only [List.getElem?_toArray, List.getElem?_cons_succ, List.getElem?_cons_zero]; rfl)
            go_simp
            go_at_call 9
            ((with_reducible refine (implDifference ix0 iy0 ix1 iy1 _ _ _ _ _ _ _ _ _ _ zs0 zs1 _ Isw47.out Itw47.out).mono ?_))
            rintro e w48 ⟨Aw48, kw48, rfl, Ow48, hbw48⟩
            have Pw48 := Lib.hid Ow48
            clear Ow48
            clear la0w47 ca0w47_0 ca0w47_1 ca0w47_2 fa0w47_0 fa0w47_1 fa0w47_2 la1w47 ca1w47_0 ca1w47_1 ca1w47_2 fa1w47_0 fa1w47_1 fa1w47_2 lww47 cww47_0 fww47_0 lxw47 cxw47_0 cxw47_1 cxw47_2 fxw47_0 fxw47_1 fxw47_2 lyw47 cyw47_0 cyw47_1 cyw47_2 fyw47_0 fyw47_1 fyw47_2 lgw47 cgw47_0 fgw47_0 lhw47 chw47_0 fhw47_0
            have bbw48 := Lib.hid (later bbw47.out hbw48)
            have hzw48 := hbw48.size
            have Va0w48 := Lib.hid (Va0w47.out.step hbw48)
            have Va1w48 := Lib.hid (Va1w47.out.step hbw48)
            have Vww48 := Lib.hid (Vww47.out.step hbw48)
            have Vxw48 := Lib.hid (Vxw47.out.step hbw48)
            have Vyw48 := Lib.hid (Vyw47.out.step hbw48)
            have Vgw48 := Lib.hid (Vgw47.out.step hbw48)
            have Vhw48 := Lib.hid (Vhw47.out.step hbw48)
            have Isw48 : Hid _ := Lib.hid (Isw47.out.step hbw48)
            have Itw48 : Hid _ := Lib.hid (Itw47.out.step hbw48)
            clear Va0w47
            clear Va1w47
            clear Vww47
            clear Vxw47
            clear Vyw47
            clear Vgw47
            clear Vhw47
            clear Isw47
            clear Itw47
            obtain ⟨la0w48, ca0w48_0, ca0w48_1, ca0w48_2, fa0w48_0, fa0w48_1, fa0w48_2⟩ := Va0w48.out.open3
            obtain ⟨la1w48, ca1w48_0, ca1w48_1, ca1w48_2, fa1w48_0, fa1w48_1, fa1w48_2⟩ := Va1w48.out.open3
            obtain ⟨lww48, cww48_0, fww48_0⟩ := Vww48.out.open1
            obtain ⟨lxw48, cxw48_0, cxw48_1, cxw48_2, fxw48_0, fxw48_1, fxw48_2⟩ := Vxw48.out.open3
            obtain ⟨lyw48, cyw48_0, cyw48_1, cyw48_2, fyw48_0, fyw48_1, fyw48_2⟩ := Vyw48.out.open3
            obtain ⟨lgw48, cgw48_0, fgw48_0⟩ := Vgw48.out.open1
            obtain ⟨lhw48, chw48_0, fhw48_0⟩ := Vhw48.out.open1
            have Ih'w48 := Pw48
            clear Pw48
            have bjw48 := Lib.hid (later bjw47.out hbw48)
            have B9 := hbw48
            refine hK.out _ _ ?_ (fun hHeld => ?_)
            · (first | exact ⟨VB.step (hHeld.1) B9, VB.step (hHeld.2) B9⟩ | exact ⟨VB.drew Va0w41.out, VB.drew Va1w41.out⟩)
            clear hK K
            try simp only [Act.put, List.setIfInBounds_toArray, List.set_cons_zero, List.set_cons_succ]
            refine readyL (rs := [6]) (by kernel_rfl) (by simp) ?_
            refine AllReadyL.last (o := ?_) ?_ (fun K hK => ?_)
            rotate_left
            · (simp only [List.getElem?_toArray, List.getElem?_cons_succ, List.getElem?_cons_zero]; rfl)
            go_simp
            refine hK.out _ _ ?_
            clear hK K
            try simp only [Act.put, List.setIfInBounds_toArray, List.set_cons_zero, List.set_cons_succ]
            refine doneL (by kernel_rfl) ?_ _
            go_wp2_with fail
            go_meet
            have e1 : w41.heap.size ≤ w47.heap.size := bjw47.out.size
            have e2 : w48.heap.size ≤ w48.heap.size := Ih'w48.out.hi_le
            case rel => exact ⟨w44.heap.size, rfl, Aw48, kw48, w47.heap.size, w48.heap.size, by omega, e1, Nat.le_trans e2 (Nat.le_of_eq (size_setCell_eq _ _ _).symm), by omega, Vhw48.out.set 0 _, Own.far (p := ⟨w44.heap.size, 0, none⟩) Ih'w48.out (by show w44.heap.size < _ ∨ _ ≤ w44.heap.size; omega) _, bjw48.out.setCell (by show w41.heap.size ≤ w44.heap.size; omega) _⟩
          exact AllReadyL.none_
        refine AllReadyL.cons (o := ?_) ?_ (fun K hK => ?_) ?_
        rotate_left
        · (simp only [List.getElem?_toArray, List.getElem?_cons_succ, List.getElem?_cons_zero]; rfl)
        · go_simp
          have hbw49 : Below (w43).heap.size (w43) (w43.alloc (.cells #[.slice none 0 0] 28 (0, 0))) := by first | exact (Below.refl _ _).alloc (Nat.le_refl _) _ | exact (show Below (w41.drew).heap.size w41.drew (w41.drew.alloc (.cells #[.slice none 0 0] 28 (0, 0))) from (Below.refl _ _).alloc (Nat.le_refl _) _)
          have haw49 : w41.heap.size ≤ w43.heap.size := bjw43.out.size
          have hyw49 : (w43).heap.size < (w43.alloc (.cells #[.slice none 0 0] 28 (0, 0))).heap.size := by simp
          have Zw49 : Hid (VB (w43.alloc (.cells #[.slice none 0 0] 28 (0, 0))) (w43.heap.size) [.slice none 0 0]) := Lib.hid (by first | exact VB.new (cs := [.slice none 0 0]) rfl | exact VB.drew (VB.new (cs := [.slice none 0 0]) rfl))
          generalize (w43.alloc (.cells #[.slice none 0 0] 28 (0, 0))) = w49 at *
          clear la0w43 ca0w43_0 ca0w43_1 ca0w43_2 fa0w43_0 fa0w43_1 fa0w43_2 la1w43 ca1w43_0 ca1w43_1 ca1w43_2 fa1w43_0 fa1w43_1 fa1w43_2 lww43 cww43_0 fww43_0 lxw43 cxw43_0 cxw43_1 cxw43_2 fxw43_0 fxw43_1 fxw43_2 lyw43 cyw43_0 cyw43_1 cyw43_2 fyw43_0 fyw43_1 fyw43_2 lgw43 cgw43_0 fgw43_0
          have bbw49 := Lib.hid (later bbw43.out hbw49)
          have hzw49 := hbw49.size
          have Va0w49 := Lib.hid (Va0w43.out.step hbw49)
          have Va1w49 := Lib.hid (Va1w43.out.step hbw49)
          have Vww49 := Lib.hid (Vww43.out.step hbw49)
          have Vxw49 := Lib.hid (Vxw43.out.step hbw49)
          have Vyw49 := Lib.hid (Vyw43.out.step hbw49)
          have Vgw49 := Lib.hid (Vgw43.out.step hbw49)
          have Isw49 : Hid _ := Lib.hid (Isw43.out.step hbw49)
          clear Va0w43
          clear Va1w43
          clear Vww43
          clear Vxw43
          clear Vyw43
          clear Vgw43
          clear Isw43
          obtain ⟨la0w49, ca0w49_0, ca0w49_1, ca0w49_2, fa0w49_0, fa0w49_1, fa0w49_2⟩ := Va0w49.out.open3
          obtain ⟨la1w49, ca1w49_0, ca1w49_1, ca1w49_2, fa1w49_0, fa1w49_1, fa1w49_2⟩ := Va1w49.out.open3
          obtain ⟨lww49, cww49_0, fww49_0⟩ := Vww49.out.open1
          obtain ⟨lxw49, cxw49_0, cxw49_1, cxw49_2, fxw49_0, fxw49_1, fxw49_2⟩ := Vxw49.out.open3
          obtain ⟨lyw49, cyw49_0, cyw49_1, cyw49_2, fyw49_0, fyw49_1, fyw49_2⟩ := Vyw49.out.open3
          obtain ⟨lgw49, cgw49_0, fgw49_0⟩ := Vgw49.out.open1
          have bjw49 := Lib.hid (later bjw43.out hbw49)
          clear la0w49 ca0w49_0 ca0w49_1 ca0w49_2 fa0w49_0 fa0w49_1 fa0w49_2 la1w49 ca1w49_0 ca1w49_1 ca1w49_2 fa1w49_0 fa1w49_1 fa1w49_2 lww49 cww49_0 fww49_0 lxw49 cxw49_0 cxw49_1 cxw49_2 fxw49_0 fxw49_1 fxw49_2 lyw49 cyw49_0 cyw49_1 cyw49_2 fyw49_0 fyw49_1 fyw49_2 lgw49 cgw49_0 fgw49_0
          have Vhw49 := Zw49
          obtain ⟨la0w49, ca0w49_0, ca0w49_1, ca0w49_2, fa0w49_0, fa0w49_1, fa0w49_2⟩ := Va0w49.out.open3
          obtain ⟨la1w49, ca1w49_0, ca1w49_1, ca1w49_2, fa1w49_0, fa1w49_1, fa1w49_2⟩ := Va1w49.out.open3
          obtain ⟨lww49, cww49_0, fww49_0⟩ := Vww49.out.open1
          obtain ⟨lxw49, cxw49_0, cxw49_1, cxw49_2, fxw49_0, fxw49_1, fxw49_2⟩ := Vxw49.out.open3
          obtain ⟨lyw49, cyw49_0, cyw49_1, cyw49_2, fyw49_0, fyw49_1, fyw49_2⟩ := Vyw49.out.open3
          obtain ⟨lgw49, cgw49_0, fgw49_0⟩ := Vgw49.out.open1
          obtain ⟨lhw49, chw49_0, fhw49_0⟩ := Vhw49.out.open1
          have B9 := hbw49
          refine hK.out _ _ ?_ (fun hHeld => ?_)
          · (first | exact ⟨VB.step (hHeld.1) B9, VB.step (hHeld.2) B9⟩ | exact ⟨VB.drew Va0w41.out, VB.drew Va1w41.out⟩)
          clear hK K
          try simp only [Act.put, List.setIfInBounds_toArray, List.set_cons_zero, List.set_cons_succ]
          refine readyL (rs := [3]) (by kernel_rfl) (by simp) ?_
          refine AllReadyL.cons (o := ?_) ?_ (fun K hK => ?_) AllReadyL.none_
          rotate_left
          · (simp only [List.getElem?_toArray, List.getElem?_cons_succ, List.getElem?_cons_zero]; rfl)
          go_simp
          go_at_call 8
          ((with_reducible refine (toImage_any _ _ _ _ _ zs1 _ (arg1.out.below bbw49.out) L1.out hsm1).mono ?_))
          rintro e w50 ⟨Aw50, kw50, rfl, Ow50, hbw50⟩
          have Pw50 := Lib.hid Ow50
          clear Ow50
          clear la0w49 ca0w49_0 ca0w49_1 ca0w49_2 fa0w49_0 fa0w49_1 fa0w49_2 la1w49 ca1w49_0 ca1w49_1 ca1w49_2 fa1w49_0 fa1w49_1 fa1w49_2 lww49 cww49_0 fww49_0 lxw49 cxw49_0 cxw49_1 cxw49_2 fxw49_0 fxw49_1 fxw49_2 lyw49 cyw49_0 cyw49_1 cyw49_2 fyw49_0 fyw49_1 fyw49_2 lgw49 cgw49_0 fgw49_0 lhw49 chw49_0 fhw49_0
          have bbw50 := Lib.hid (later bbw49.out hbw50)
          have hzw50 := hbw50.size
          have Va0w50 := Lib.hid (Va0w49.out.step hbw50)
          have Va1w50 := Lib.hid (Va1w49.out.step hbw50)
          have Vww50 := Lib.hid (Vww49.out.step hbw50)
          have Vxw50 := Lib.hid (Vxw49.out.step hbw50)
          have Vyw50 := Lib.hid (Vyw49.out.step hbw50)
          have Vgw50 := Lib.hid (Vgw49.out.step hbw50)
          have Vhw50 := Lib.hid (Vhw49.out.step hbw50)
          have Isw50 : Hid _ := Lib.hid (Isw49.out.step hbw50)
          clear Va0w49
          clear Va1w49
          clear Vww49
          clear Vxw49
          clear Vyw49
          clear Vgw49
          clear Vhw49
          clear Isw49
          obtain ⟨la0w50, ca0w50_0, ca0w50_1, ca0w50_2, fa0w50_0, fa0w50_1, fa0w50_2⟩ := Va0w50.out.open3
          obtain ⟨la1w50, ca1w50_0, ca1w50_1, ca1w50_2, fa1w50_0, fa1w50_1, fa1w50_2⟩ := Va1w50.out.open3
          obtain ⟨lww50, cww50_0, fww50_0⟩ := Vww50.out.open1
          obtain ⟨lxw50, cxw50_0, cxw50_1, cxw50_2, fxw50_0, fxw50_1, fxw50_2⟩ := Vxw50.out.open3
          obtain ⟨lyw50, cyw50_0, cyw50_1, cyw50_2, fyw50_0, fyw50_1, fyw50_2⟩ := Vyw50.out.open3
          obtain ⟨lgw50, cgw50_0, fgw50_0⟩ := Vgw50.out.open1
          obtain ⟨lhw50, chw50_0, fhw50_0⟩ := Vhw50.out.open1
          have Itw50 := Pw50
          clear Pw50
          have bjw50 := Lib.hid (later bjw49.out hbw50)
          have B9 := hbw50
          refine hK.out _ _ ?_ (fun hHeld => ?_)
          · (first | exact ⟨VB.step (hHeld.1) B9, VB.step (hHeld.2) B9⟩ | exact ⟨VB.drew Va0w41.out, VB.drew Va1w41.out⟩)
          clear hK K
          try simp only [Act.put, List.setIfInBounds_toArray, List.set_cons_zero, List.set_cons_succ]
          refine readyL (rs := [4]) (by kernel_rfl) (by simp) ?_
          refine AllReadyL.cons (o := ?_) ?_ (fun K hK => ?_) AllReadyL.none_
          rotate_left
          · (simp only [List.getElem?_toArray, List.getElem?_cons_succ, List.getElem?_cons_zero]; rfl)
          go_simp
          go_at_call 9
          ((with_reducible refine (implDifference ix0 iy0 ix1 iy1 _ _ _ _ _ _ _ _ _ _ zs0 zs1 _ Isw50.out Itw50.out).mono ?_))
          rintro e w51 ⟨Aw51, kw51, rfl, Ow51, hbw51⟩
          have Pw51 := Lib.hid Ow51
          clear Ow51
          clear la0w50 ca0w50_0 ca0w50_1 ca0w50_2 fa0w50_0 fa0w50_1 fa0w50_2 la1w50 ca1w50_0 ca1w50_1 ca1w50_2 fa1w50_0 fa1w50_1 fa1w50_2 lww50 cww50_0 fww50_0 lxw50 cxw50_0 cxw50_1 cxw50_2 fxw50_0 fxw50_1 fxw50_2 lyw50 cyw50_0 cyw50_1 cyw50_2 fyw50_0 fyw50_1 fyw50_2 lgw50 cgw50_0 fgw50_0 lhw50 chw50_0 fhw50_0
          have bbw51 := Lib.hid (later bbw50.out hbw51)
          have hzw51 := hbw51.size
          have Va0w51 := Lib.hid (Va0w50.out.step hbw51)
          have Va1w51 := Lib.hid (Va1w50.out.step hbw51)
          have Vww51 := Lib.hid (Vww50.out.step hbw51)
          have Vxw51 := Lib.hid (Vxw50.out.step hbw51)
          have Vyw51 := Lib.hid (Vyw50.out.step hbw51)
          have Vgw51 := Lib.hid (Vgw50.out.step hbw51)
          have Vhw51 := Lib.hid (Vhw50.out.step hbw51)
          have Isw51 : Hid _ := Lib.hid (Isw50.out.step hbw51)
          have Itw51 : Hid _ := Lib.hid (Itw50.out.step hbw51)
          clear Va0w50
          clear Va1w50
          clear Vww50
          clear Vxw50
          clear Vyw50
          clear Vgw50
          clear Vhw50
          clear Isw50
          clear Itw50
          obtain ⟨la0w51, ca0w51_0, ca0w51_1, ca0w51_2, fa0w51_0, fa0w51_1, fa0w51_2⟩ := Va0w51.out.open3
          obtain ⟨la1w51, ca1w51_0, ca1w51_1, ca1w51_2, fa1w51_0, fa1w51_1, fa1w51_2⟩ := Va1w51.out.open3
          obtain ⟨lww51, cww51_0, fww51_0⟩ := Vww51.out.open1
          obtain ⟨lxw51, cxw51_0, cxw51_1, cxw51_2, fxw51_0, fxw51_1, fxw51_2⟩ := Vxw51.out.open3
          obtain ⟨lyw51, cyw51_0, cyw51_1, cyw51_2, fyw51_0, fyw51_1, fyw51_2⟩ := Vyw51.out.open3
          obtain ⟨lgw51, cgw51_0, fgw51_0⟩ := Vgw51.out.open1
          obtain ⟨lhw51, chw51_0, fhw51_0⟩ := Vhw51.out.open1
          have Ih'w51 := Pw51
          clear Pw51
          have bjw51 := Lib.hid (later bjw50.out hbw51)
          have B9 := hbw51
          refine hK.out _ _ ?_ (fun hHeld => ?_)
          · (first | exact ⟨VB.step (hHeld.1) B9, VB.step (hHeld.2) B9⟩ | exact ⟨VB.drew Va0w41.out, VB.drew Va1w41.out⟩)
          clear hK K
          try simp only [Act.put, List.setIfInBounds_toArray, List.set_cons_zero, List.set_cons_succ]
          refine readyL (rs := [6]) (by kernel_rfl) (by simp) ?_
          refine AllReadyL.last (o := ?_) ?_ (fun K hK => ?_)
          rotate_left
          · (simp only [List.getElem?_toArray, List.getElem?_cons_succ, List.getElem?_cons_zero]; rfl)
          go_simp
          refine hK.out _ _ ?_
          clear hK K
          try simp only [Act.put, List.setIfInBounds_toArray, List.set_cons_zero, List.set_cons_succ]
          refine doneL (by kernel_rfl) ?_ _
          go_wp2_with fail
          go_meet
          have e1 : w41.heap.size ≤ w50.heap.size := bjw50.out.size
          have e2 : w51.heap.size ≤ w51.heap.size := Ih'w51.out.hi_le
          case rel => exact ⟨w43.heap.size, rfl, Aw51, kw51, w50.heap.size, w51.heap.size, by omega, e1, Nat.le_trans e2 (Nat.le_of_eq (size_setCell_eq _ _ _).symm), by omega, Vhw51.out.set 0 _, Own.far (p := ⟨w43.heap.size, 0, none⟩) Ih'w51.out (by show w43.heap.size < _ ∨ _ ≤ w43.heap.size; omega) _, bjw51.out.setCell (by show w41.heap.size ≤ w43.heap.size; omega) _⟩
        exact AllReadyL.none_
      refine AllReadyL.cons (o := ?_) ?_ (fun K hK => ?_) ?_
      rotate_left
      · (simp only [List.getElem?_toArray, List.getElem?_cons_succ, List.getElem?_cons_zero]; rfl)
      · go_simp
        have hbw52 : Below (w41.drew).heap.size (w41.drew) (w41.alloc (.cells #[.slice none 0 0] 28 (0, 0))).drew := by first | exact (Below.refl _ _).alloc (Nat.le_refl _) _ | exact (show Below (w41.drew).heap.size w41.drew (w41.drew.alloc (.cells #[.slice none 0 0] 28 (0, 0))) from (Below.refl _ _).alloc (Nat.le_refl _) _)
        have haw52 : w41.heap.size ≤ w41.heap.size := Nat.le_refl _
        have hyw52 : (w41.drew).heap.size < (w41.alloc (.cells #[.slice none 0 0] 28 (0, 0))).drew.heap.size := by simp
        have Zw52 : Hid (VB (w41.alloc (.cells #[.slice none 0 0] 28 (0, 0))).drew (w41.heap.size) [.slice none 0 0]) := Lib.hid (by first | exact VB.new (cs := [.slice none 0 0]) rfl | exact VB.drew (VB.new (cs := [.slice none 0 0]) rfl))
        generalize (w41.alloc (.cells #[.slice none 0 0] 28 (0, 0))).drew = w52 at *
        have bbw52 := Lib.hid (later bbw42.out hbw52)
        have hzw52 := hbw52.size
        have Va0w52 := Lib.hid (Va0w42.out.step hbw52)
        have Va1w52 := Lib.hid (Va1w42.out.step hbw52)
        have Vww52 := Lib.hid (Vww42.out.step hbw52)
        have Vxw52 := Lib.hid (Vxw42.out.step hbw52)
        have Vyw52 := Lib.hid (Vyw42.out.step hbw52)
        have Vgw52 := Lib.hid (Vgw42.out.step hbw52)
        clear Va0w42
        clear Va1w42
        clear Vww42
        clear Vxw42
        clear Vyw42
        clear Vgw42
        obtain ⟨la0w52, ca0w52_0, ca0w52_1, ca0w52_2, fa0w52_0, fa0w52_1, fa0w52_2⟩ := Va0w52.out.open3
        obtain ⟨la1w52, ca1w52_0, ca1w52_1, ca1w52_2, fa1w52_0, fa1w52_1, fa1w52_2⟩ := Va1w52.out.open3
        obtain ⟨lww52, cww52_0, fww52_0⟩ := Vww52.out.open1
        obtain ⟨lxw52, cxw52_0, cxw52_1, cxw52_2, fxw52_0, fxw52_1, fxw52_2⟩ := Vxw52.out.open3
        obtain ⟨lyw52, cyw52_0, cyw52_1, cyw52_2, fyw52_0, fyw52_1, fyw52_2⟩ := Vyw52.out.open3
        obtain ⟨lgw52, cgw52_0, fgw52_0⟩ := Vgw52.out.open1
        have bjw52 := Lib.hid (later bjw42.out hbw52)
        clear la0w52 ca0w52_0 ca0w52_1 ca0w52_2 fa0w52_0 fa0w52_1 fa0w52_2 la1w52 ca1w52_0 ca1w52_1 ca1w52_2 fa1w52_0 fa1w52_1 fa1w52_2 lww52 cww52_0 fww52_0 lxw52 cxw52_0 cxw52_1 cxw52_2 fxw52_0 fxw52_1 fxw52_2 lyw52 cyw52_0 cyw52_1 cyw52_2 fyw52_0 fyw52_1 fyw52_2 lgw52 cgw52_0 fgw52_0
        have Vhw52 := Zw52
        obtain ⟨la0w52, ca0w52_0, ca0w52_1, ca0w52_2, fa0w52_0, fa0w52_1, fa0w52_2⟩ := Va0w52.out.open3
        obtain ⟨la1w52, ca1w52_0, ca1w52_1, ca1w52_2, fa1w52_0, fa1w52_1, fa1w52_2⟩ := Va1w52.out.open3
        obtain ⟨lww52, cww52_0, fww52_0⟩ := Vww52.out.open1
        obtain ⟨lxw52, cxw52_0, cxw52_1, cxw52_2, fxw52_0, fxw52_1, fxw52_2⟩ := Vxw52.out.open3
        obtain ⟨lyw52, cyw52_0, cyw52_1, cyw52_2, fyw52_0, fyw52_1, fyw52_2⟩ := Vyw52.out.open3
        obtain ⟨lgw52, cgw52_0, fgw52_0⟩ := Vgw52.out.open1
        obtain ⟨lhw52, chw52_0, fhw52_0⟩ := Vhw52.out.open1
        have B9 := hbw52
        refine hK.out _ _ ?_ (fun hHeld => ?_)
        · (first | exact ⟨VB.step (hHeld.1) B9, VB.step (hHeld.2) B9⟩ | exact ⟨VB.drew Va0w41.out, VB.drew Va1w41.out⟩)
        clear hK K
        try simp only [Act.put, List.setIfInBounds_toArray, List.set_cons_zero, List.set_cons_succ]
        refine readyL (rs := [1]) (by kernel_rfl) (by simp) ?_
        refine AllReadyL.cons (o := ?_) ?_ (fun K hK => ?_) AllReadyL.none_
        rotate_left
        · (simp only [List.getElem?_toArray, List.getElem?_cons_succ, List.getElem?_cons_zero]; rfl)
        go_simp
        go_at_call 8
        ((with_reducible refine (toImage_any _ _ _ _ _ zs0 _ (arg0.out.below bbw52.out) L0.out hsm0).mono ?_))
        rintro e w53 ⟨Aw53, kw53, rfl, Ow53, hbw53⟩
        have Pw53 := Lib.hid Ow53
        clear Ow53
        clear la0w52 ca0w52_0 ca0w52_1 ca0w52_2 fa0w52_0 fa0w52_1 fa0w52_2 la1w52 ca1w52_0 ca1w52_1 ca1w52_2 fa1w52_0 fa1w52_1 fa1w52_2 lww52 cww52_0 fww52_0 lxw52 cxw52_0 cxw52_1 cxw52_2 fxw52_0 fxw52_1 fxw52_2 lyw52 cyw52_0 cyw52_1 cyw52_2 fyw52_0 fyw52_1 fyw52_2 lgw52 cgw52_0 fgw52_0 lhw52 chw52_0 fhw52_0
        have bbw53 := Lib.hid (later bbw52.out hbw53)
        have hzw53 := hbw53.size
        have Va0w53 := Lib.hid (Va0w52.out.step hbw53)
        have Va1w53 := Lib.hid (Va1w52.out.step hbw53)
        have Vww53 := Lib.hid (Vww52.out.step hbw53)
        have Vxw53 := Lib.hid (Vxw52.out.step hbw53)
        have Vyw53 := Lib.hid (Vyw52.out.step hbw53)
        have Vgw53 := Lib.hid (Vgw52.out.step hbw53)
        have Vhw53 := Lib.hid (Vhw52.out.step hbw53)
        clear Va0w52
        clear Va1w52
        clear Vww52
        clear Vxw52
        clear Vyw52
        clear Vgw52
        clear Vhw52
        obtain ⟨la0w53, ca0w53_0, ca0w53_1, ca0w53_2, fa0w53_0, fa0w53_1, fa0w53_2⟩ := Va0w53.out.open3
        obtain ⟨la1w53, ca1w53_0, ca1w53_1, ca1w53_2, fa1w53_0, fa1w53_1, fa1w53_2⟩ := Va1w53.out.open3
        obtain ⟨lww53, cww53_0, fww53_0⟩ := Vww53.out.open1
        obtain ⟨lxw53, cxw53_0, cxw53_1, cxw53_2, fxw53_0, fxw53_1, fxw53_2⟩ := Vxw53.out.open3
        obtain ⟨lyw53, cyw53_0, cyw53_1, cyw53_2, fyw53_0, fyw53_1, fyw53_2⟩ := Vyw53.out.open3
        obtain ⟨lgw53, cgw53_0, fgw53_0⟩ := Vgw53.out.open1
        obtain ⟨lhw53, chw53_0, fhw53_0⟩ := Vhw53.out.open1
        have Isw53 := Pw53
        clear Pw53
        have bjw53 := Lib.hid (later bjw52.out hbw53)
        have B9 := hbw53
        refine hK.out _ _ ?_ (fun hHeld => ?_)
        · (first | exact ⟨VB.step (hHeld.1) B9, VB.step (hHeld.2) B9⟩ | exact ⟨VB.drew Va0w41.out, VB.drew Va1w41.out⟩)
        clear hK K
        try simp only [Act.put, List.setIfInBounds_toArray, List.set_cons_zero, List.set_cons_succ]
        refine readyL (rs := [3]) (by kernel_rfl) (by simp) ?_
        refine AllReadyL.cons (o := ?_) ?_ (fun K hK => ?_) AllReadyL.none_
        rotate_left
        · (simp only [List.getElem?_toArray, List.getElem?_cons_succ, List.getElem?_cons_zero]; rfl)
        go_simp
        go_at_call 8
        ((with_reducible refine (toImage_any _ _ _ _ _ zs1 _ (arg1.out.below bbw53.out) L1.out hsm1).mono ?_))
        rintro e w54 ⟨Aw54, kw54, rfl, Ow54, hbw54⟩
        have Pw54 := Lib.hid Ow54
        clear Ow54
        clear la0w53 ca0w53_0 ca0w53_1 ca0w53_2 fa0w53_0 fa0w53_1 fa0w53_2 la1w53 ca1w53_0 ca1w53_1 ca1w53_2 fa1w53_0 fa1w53_1 fa1w53_2 lww53 cww53_0 fww53_0 lxw53 cxw53_0 cxw53_1 cxw53_2 fxw53_0 fxw53_1 fxw53_2 lyw53 cyw53_0 cyw53_1 cyw53_2 fyw53_0 fyw53_1 fyw53_2 lgw53 cgw53_0 fgw53_0 lhw53 chw53_0 fhw53_0
        have bbw54 := Lib.hid (later bbw53.out hbw54)
        have hzw54 := hbw54.size
        have Va0w54 := Lib.hid (Va0w53.out.step hbw54)
        have Va1w54 := Lib.hid (Va1w53.out.step hbw54)
        have Vww54 := Lib.hid (Vww53.out.step hbw54)
        have Vxw54 := Lib.hid (Vxw53.out.step hbw54)
        have Vyw54 := Lib.hid (Vyw53.out.step hbw54)
        have Vgw54 := Lib.hid (Vgw53.out.step hbw54)
        have Vhw54 := Lib.hid (Vhw53.out.step hbw54)
        have Isw54 : Hid _ := Lib.hid (Isw53.out.step hbw54)
        clear Va0w53
        clear Va1w53
        clear Vww53
        clear Vxw53
        clear Vyw53
        clear Vgw53
        clear Vhw53
        clear Isw53
        obtain ⟨la0w54, ca0w54_0, ca0w54_1, ca0w54_2, fa0w54_0, fa0w54_1, fa0w54_2⟩ := Va0w54.out.open3
        obtain ⟨la1w54, ca1w54_0, ca1w54_1, ca1w54_2, fa1w54_0, fa1w54_1, fa1w54_2⟩ := Va1w54.out.open3
        obtain ⟨lww54, cww54_0, fww54_0⟩ := Vww54.out.open1
        obtain ⟨lxw54, cxw54_0, cxw54_1, cxw54_2, fxw54_0, fxw54_1, fxw54_2⟩ := Vxw54.out.open3
        obtain ⟨lyw54, cyw54_0, cyw54_1, cyw54_2, fyw54_0, fyw54_1, fyw54_2⟩ := Vyw54.out.open3
        obtain ⟨lgw54, cgw54_0, fgw54_0⟩ := Vgw54.out.open1
        obtain ⟨lhw54, chw54_0, fhw54_0⟩ := Vhw54.out.open1
        have Itw54 := Pw54
        clear Pw54
        have bjw54 := Lib.hid (later bjw53.out hbw54)
        have B9 := hbw54
        refine hK.out _ _ ?_ (fun hHeld => ?_)
        · (first | exact ⟨VB.step (hHeld.1) B9, VB.step (hHeld.2) B9⟩ | exact ⟨VB.drew Va0w41.out, VB.drew Va1w41.out⟩)
        clear hK K
        try simp only [Act.put, List.setIfInBounds_toArray, List.set_cons_zero, List.set_cons_succ]
        refine readyL (rs := [4]) (by kernel_rfl) (by simp) ?_
        refine AllReadyL.cons (o := ?_) ?_ (fun K hK => ?_) AllReadyL.none_
        rotate_left
        · (simp only [List.getElem?_toArray, List.getElem?_cons_succ, List.getElem?_cons_zero]; rfl)
        go_simp
        go_at_call 9
        ((with_reducible refine (implDifference ix0 iy0 ix1 iy1 _ _ _ _ _ _ _ _ _ _ zs0 zs1 _ Isw54.out Itw54.out).mono ?_))
        rintro e w55 ⟨Aw55, kw55, rfl, Ow55, hbw55⟩
        have Pw55 := Lib.hid Ow55
        clear Ow55
        clear la0w54 ca0w54_0 ca0w54_1 ca0w54_2 fa0w54_0 fa0w54_1 fa0w54_2 la1w54 ca1w54_0 ca1w54_1 ca1w54_2 fa1w54_0 fa1w54_1 fa1w54_2 lww54 cww54_0 fww54_0 lxw54 cxw54_0 cxw54_1 cxw54_2 fxw54_0 fxw54_1 fxw54_2 lyw54 cyw54_0 cyw54_1 cyw54_2 fyw54_0 fyw54_1 fyw54_2 lgw54 cgw54_0 fgw54_0 lhw54 chw54_0 fhw54_0
        have bbw55 := Lib.hid (later bbw54.out hbw55)
        have hzw55 := hbw55.size
        have Va0w55 := Lib.hid (Va0w54.out.step hbw55)
        have Va1w55 := Lib.hid (Va1w54.out.step hbw55)
        have Vww55 := Lib.hid (Vww54.out.step hbw55)
        have Vxw55 := Lib.hid (Vxw54.out.step hbw55)
        have Vyw55 := Lib.hid (Vyw54.out.step hbw55)
        have Vgw55 := Lib.hid (Vgw54.out.step hbw55)
        have Vhw55 := Lib.hid (Vhw54.out.step hbw55)
        have Isw55 : Hid _ := Lib.hid (Isw54.out.step hbw55)
        have Itw55 : Hid _ := Lib.hid (Itw54.out.step hbw55)
        clear Va0w54
        clear Va1w54
        clear Vww54
        clear Vxw54
        clear Vyw54
        clear Vgw54
        clear Vhw54
        clear Isw54
        clear Itw54
        obtain ⟨la0w55, ca0w55_0, ca0w55_1, ca0w55_2, fa0w55_0, fa0w55_1, fa0w55_2⟩ := Va0w55.out.open3
        obtain ⟨la1w55, ca1w55_0, ca1w55_1, ca1w55_2, fa1w55_0, fa1w55_1, fa1w55_2⟩ := Va1w55.out.open3
        obtain ⟨lww55, cww55_0, fww55_0⟩ := Vww55.out.open1
        obtain ⟨lxw55, cxw55_0, cxw55_1, cxw55_2, fxw55_0, fxw55_1, fxw55_2⟩ := Vxw55.out.open3
        obtain ⟨lyw55, cyw55_0, cyw55_1, cyw55_2, fyw55_0, fyw55_1, fyw55_2⟩ := Vyw55.out.open3
        obtain ⟨lgw55, cgw55_0, fgw55_0⟩ := Vgw55.out.open1
        obtain ⟨lhw55, chw55_0, fhw55_0⟩ := Vhw55.out.open1
        have Ih'w55 := Pw55
        clear Pw55
        have bjw55 := Lib.hid (later bjw54.out hbw55)
        have B9 := hbw55
        refine hK.out _ _ ?_ (fun hHeld => ?_)
        · (first | exact ⟨VB.step (hHeld.1) B9, VB.step (hHeld.2) B9⟩ | exact ⟨VB.drew Va0w41.out, VB.drew Va1w41.out⟩)
        clear hK K
        try simp only [Act.put, List.setIfInBounds_toArray, List.set_cons_zero, List.set_cons_succ]
        refine readyL (rs := [6]) (by kernel_rfl) (by simp) ?_
        refine AllReadyL.last (o := ?_) ?_ (fun K hK => ?_)
        rotate_left
        · (simp only [List.getElem?_toArray, List.getElem?_cons_succ, List.getElem?_cons_zero]; rfl)
        go_simp
        refine hK.out _ _ ?_
        clear hK K
        try simp only [Act.put, List.setIfInBounds_toArray, List.set_cons_zero, List.set_cons_succ]
        refine doneL (by kernel_rfl) ?_ _
        go_wp2_with fail
        go_meet
        have e1 : w41.heap.size ≤ w54.heap.size := bjw54.out.size
        have e2 : w55.heap.size ≤ w55.heap.size := Ih'w55.out.hi_le
        case rel => exact ⟨w41.heap.size, rfl, Aw55, kw55, w54.heap.size, w55.heap.size, by omega, e1, Nat.le_trans e2 (Nat.le_of_eq (size_setCell_eq _ _ _).symm), by omega, Vhw55.out.set 0 _, Own.far (p := ⟨w41.heap.size, 0, none⟩) Ih'w55.out (by show w41.heap.size < _ ∨ _ ≤ w41.heap.size; omega) _, bjw55.out.setCell (by show w41.heap.size ≤ w41.heap.size; omega) _⟩
      exact AllReadyL.none_
    case rest =>
      obtain ⟨bkw56, rfl, Aw56, kw56, low56, hiw56, p1w56, p2w56, p3w56, p4w56, VVw56, IIw56, hbw56⟩ := hcut
      obtain ⟨w56, rfl⟩ : ∃ w56 : World, w56 = wc := ⟨_, rfl⟩
      clear la0w41 ca0w41_0 ca0w41_1 ca0w41_2 fa0w41_0 fa0w41_1 fa0w41_2 la1w41 ca1w41_0 ca1w41_1 ca1w41_2 fa1w41_0 fa1w41_1 fa1w41_2 lww41 cww41_0 fww41_0 lxw41 cxw41_0 cxw41_1 cxw41_2 fxw41_0 fxw41_1 fxw41_2 lyw41 cyw41_0 cyw41_1 cyw41_2 fyw41_0 fyw41_1 fyw41_2 lgw41 cgw41_0 fgw41_0
      have bbw56 := Lib.hid (later bbw41.out hbw56)
      have hzw56 := hbw56.size
      have Va0w56 := Lib.hid (Va0w41.out.step hbw56)
      have Va1w56 := Lib.hid (Va1w41.out.step hbw56)
      have Vww56 := Lib.hid (Vww41.out.step hbw56)
      have Vxw56 := Lib.hid (Vxw41.out.step hbw56)
      have Vyw56 := Lib.hid (Vyw41.out.step hbw56)
      have Vgw56 := Lib.hid (Vgw41.out.step hbw56)
      have Iww56 : Hid _ := Lib.hid (Iww41.out.step hbw56)
      have Ixw56 : Hid _ := Lib.hid (Ixw41.out.step hbw56)
      have Iyw56 : Hid _ := Lib.hid (Iyw41.out.step hbw56)
      have Igw56 : Hid _ := Lib.hid (Igw41.out.step hbw56)
      clear Va0w41
      clear Va1w41
      clear Vww41
      clear Vxw41
      clear Vyw41
      clear Vgw41
      clear Iww41
      clear Ixw41
      clear Iyw41
      clear Igw41
      obtain ⟨la0w56, ca0w56_0, ca0w56_1, ca0w56_2, fa0w56_0, fa0w56_1, fa0w56_2⟩ := Va0w56.out.open3
      obtain ⟨la1w56, ca1w56_0, ca1w56_1, ca1w56_2, fa1w56_0, fa1w56_1, fa1w56_2⟩ := Va1w56.out.open3
      obtain ⟨lww56, cww56_0, fww56_0⟩ := Vww56.out.open1
      obtain ⟨lxw56, cxw56_0, cxw56_1, cxw56_2, fxw56_0, fxw56_1, fxw56_2⟩ := Vxw56.out.open3
      obtain ⟨lyw56, cyw56_0, cyw56_1, cyw56_2, fyw56_0, fyw56_1, fyw56_2⟩ := Vyw56.out.open3
      obtain ⟨lgw56, cgw56_0, fgw56_0⟩ := Vgw56.out.open1
      clear la0w56 ca0w56_0 ca0w56_1 ca0w56_2 fa0w56_0 fa0w56_1 fa0w56_2 la1w56 ca1w56_0 ca1w56_1 ca1w56_2 fa1w56_0 fa1w56_1 fa1w56_2 lww56 cww56_0 fww56_0 lxw56 cxw56_0 cxw56_1 cxw56_2 fxw56_0 fxw56_1 fxw56_2 lyw56 cyw56_0 cyw56_1 cyw56_2 fyw56_0 fyw56_1 fyw56_2 lgw56 cgw56_0 fgw56_0
      have Vhw56 := Lib.hid VVw56
      have tw56 := Vhw56.out.lt
      have Ihw56 := Lib.hid IIw56
      clear VVw56 IIw56
      obtain ⟨la0w56, ca0w56_0, ca0w56_1, ca0w56_2, fa0w56_0, fa0w56_1, fa0w56_2⟩ := Va0w56.out.open3
      obtain ⟨la1w56, ca1w56_0, ca1w56_1, ca1w56_2, fa1w56_0, fa1w56_1, fa1w56_2⟩ := Va1w56.out.open3
      obtain ⟨lww56, cww56_0, fww56_0⟩ := Vww56.out.open1
      obtain ⟨lxw56, cxw56_0, cxw56_1, cxw56_2, fxw56_0, fxw56_1, fxw56_2⟩ := Vxw56.out.open3
      obtain ⟨lyw56, cyw56_0, cyw56_1, cyw56_2, fyw56_0, fyw56_1, fyw56_2⟩ := Vyw56.out.open3
      obtain ⟨lgw56, cgw56_0, fgw56_0⟩ := Vgw56.out.open1
      obtain ⟨lhw56, chw56_0, fhw56_0⟩ := Vhw56.out.open1
      go_wp2_with fail
      refine (eqRegion_same _ _ _ _ _ _ (Pl.diffOf ⟨ix0, iy0, zs0⟩ ⟨ix1, iy1, zs1⟩) _ (Recs.arg Ihw56.out) (Recs.arg Iww56.out) rfl rfl (by omega) (by omega)).mono ?_
      rintro e w57 ⟨rfl, hbw57⟩
      clear la0w56 ca0w56_0 ca0w56_1 ca0w56_2 fa0w56_0 fa0w56_1 fa0w56_2 la1w56 ca1w56_0 ca1w56_1 ca1w56_2 fa1w56_0 fa1w56_1 fa1w56_2 lww56 cww56_0 fww56_0 lxw56 cxw56_0 cxw56_1 cxw56_2 fxw56_0 fxw56_1 fxw56_2 lyw56 cyw56_0 cyw56_1 cyw56_2 fyw56_0 fyw56_1 fyw56_2 lgw56 cgw56_0 fgw56_0 lhw56 chw56_0 fhw56_0
      have bbw57 := Lib.hid (later bbw56.out hbw57)
      have hzw57 := hbw57.size
      have Va0w57 := Lib.hid (Va0w56.out.step hbw57)
      have Va1w57 := Lib.hid (Va1w56.out.step hbw57)
      have Vww57 := Lib.hid (Vww56.out.step hbw57)
      have Vxw57 := Lib.hid (Vxw56.out.step hbw57)
      have Vyw57 := Lib.hid (Vyw56.out.step hbw57)
      have Vgw57 := Lib.hid (Vgw56.out.step hbw57)
      have Vhw57 := Lib.hid (Vhw56.out.step hbw57)
      have Iww57 : Hid _ := Lib.hid (Iww56.out.step hbw57)
      have Ixw57 : Hid _ := Lib.hid (Ixw56.out.step hbw57)
      have Iyw57 : Hid _ := Lib.hid (Iyw56.out.step hbw57)
      have Igw57 : Hid _ := Lib.hid (Igw56.out.step hbw57)
      have Ihw57 : Hid _ := Lib.hid (Ihw56.out.step hbw57)
      clear Va0w56
      clear Va1w56
      clear Vww56
      clear Vxw56
      clear Vyw56
      clear Vgw56
      clear Vhw56
      clear Iww56
      clear Ixw56
      clear Iyw56
      clear Igw56
      clear Ihw56
      obtain ⟨la0w57, ca0w57_0, ca0w57_1, ca0w57_2, fa0w57_0, fa0w57_1, fa0w57_2⟩ := Va0w57.out.open3
      obtain ⟨la1w57, ca1w57_0, ca1w57_1, ca1w57_2, fa1w57_0, fa1w57_1, fa1w57_2⟩ := Va1w57.out.open3
      obtain ⟨lww57, cww57_0, fww57_0⟩ := Vww57.out.open1
      obtain ⟨lxw57, cxw57_0, cxw57_1, cxw57_2, fxw57_0, fxw57_1, fxw57_2⟩ := Vxw57.out.open3
      obtain ⟨lyw57, cyw57_0, cyw57_1, cyw57_2, fyw57_0, fyw57_1, fyw57_2⟩ := Vyw57.out.open3
      obtain ⟨lgw57, cgw57_0, fgw57_0⟩ := Vgw57.out.open1
      obtain ⟨lhw57, chw57_0, fhw57_0⟩ := Vhw57.out.open1
      go_wp2_with fail
      refine (heldRegion_same _ _ _ 1 _ (Recs.arg Igw57.out) (by omega) (by omega)).mono ?_
      rintro e w58 ⟨rfl, hbw58⟩
      clear la0w57 ca0w57_0 ca0w57_1 ca0w57_2 fa0w57_0 fa0w57_1 fa0w57_2 la1w57 ca1w57_0 ca1w57_1 ca1w57_2 fa1w57_0 fa1w57_1 fa1w57_2 lww57 cww57_0 fww57_0 lxw57 cxw57_0 cxw57_1 cxw57_2 fxw57_0 fxw57_1 fxw57_2 lyw57 cyw57_0 cyw57_1 cyw57_2 fyw57_0 fyw57_1 fyw57_2 lgw57 cgw57_0 fgw57_0 lhw57 chw57_0 fhw57_0
      have bbw58 := Lib.hid (later bbw57.out hbw58)
      have hzw58 := hbw58.size
      have Va0w58 := Lib.hid (Va0w57.out.step hbw58)
      have Va1w58 := Lib.hid (Va1w57.out.step hbw58)
      have Vww58 := Lib.hid (Vww57.out.step hbw58)
      have Vxw58 := Lib.hid (Vxw57.out.step hbw58)
      have Vyw58 := Lib.hid (Vyw57.out.step hbw58)
      have Vgw58 := Lib.hid (Vgw57.out.step hbw58)
      have Vhw58 := Lib.hid (Vhw57.out.step hbw58)
      have Iww58 : Hid _ := Lib.hid (Iww57.out.step hbw58)
      have Ixw58 : Hid _ := Lib.hid (Ixw57.out.step hbw58)
      have Iyw58 : Hid _ := Lib.hid (Iyw57.out.step hbw58)
      have Igw58 : Hid _ := Lib.hid (Igw57.out.step hbw58)
      have Ihw58 : Hid _ := Lib.hid (Ihw57.out.step hbw58)
      clear Va0w57
      clear Va1w57
      clear Vww57
      clear Vxw57
      clear Vyw57
      clear Vgw57
      clear Vhw57
      clear Iww57
      clear Ixw57
      clear Iyw57
      clear Igw57
      clear Ihw57
      obtain ⟨la0w58, ca0w58_0, ca0w58_1, ca0w58_2, fa0w58_0, fa0w58_1, fa0w58_2⟩ := Va0w58.out.open3
      obtain ⟨la1w58, ca1w58_0, ca1w58_1, ca1w58_2, fa1w58_0, fa1w58_1, fa1w58_2⟩ := Va1w58.out.open3
      obtain ⟨lww58, cww58_0, fww58_0⟩ := Vww58.out.open1
      obtain ⟨lxw58, cxw58_0, cxw58_1, cxw58_2, fxw58_0, fxw58_1, fxw58_2⟩ := Vxw58.out.open3
      obtain ⟨lyw58, cyw58_0, cyw58_1, cyw58_2, fyw58_0, fyw58_1, fyw58_2⟩ := Vyw58.out.open3
      obtain ⟨lgw58, cgw58_0, fgw58_0⟩ := Vgw58.out.open1
      obtain ⟨lhw58, chw58_0, fhw58_0⟩ := Vhw58.out.open1
      go_wp2_with fail
      go_ret
      exact ⟨rfl, bbw58.out⟩
end Go.Proofs.Ytmjjepgnciibcaa
