/- The law FnExactCopyRegion: it returns true. -/
import Derived.Test.YtmjjepgnciibcaaCopyR2
import Derived.Test.YtmjjepgnciibcaaIm
import Derived.Test.YtmjjepgnciibcaaRecs3
import Derived.BigQuiet
import Derived.Deep.Cut
import Derived.Deep.DeepCutAuto
import Derived.Test.YtmjjepgnciibcaaOrd
namespace Go.Proofs.Ytmjjepgnciibcaa
open Go.RowKit
set_option linter.unusedVariables false
set_option linter.unusedSimpArgs false
/-- The laws' regions, compared with their like. -/
theorem eqRegion_same (A1 A2 : Option Addr) (n m c1 c2 : Nat) (zs : List Pl.R) (w : World) (H1 : RArg w A1 zs) (H2 : RArg w A2 zs) (L1 : zs.length = n) (L2 : zs.length = m) (b1 : n ≤ 9223372036854775807) (b2 : m ≤ 9223372036854775807) :
    Calls Try.prog 10 #[.agg #[.slice A1 n c1], .agg #[.slice A2 m c2]] w fun e w' => e = .returned (.bool true) ∧ Below w.heap.size w w' := by
  have h := eqRegion_any A1 A2 n m c1 c2 zs zs w H1 H2 L1 L2 b1 b2
  simpa using h
/-- A new variable that holds a region. -/
def NewVarR (J wx : World) (b : Nat) (rs : List Pl.R) : Prop :=
  ∃ (A : Option Addr) (c lo hi : Nat), J.heap.size ≤ b ∧ J.heap.size ≤ lo ∧ hi ≤ wx.heap.size ∧ (b < lo ∨ hi ≤ b) ∧ VB wx b [.slice A rs.length c] ∧ Recs wx lo hi (.slice A rs.length c) rs ∧ Below J.heap.size J wx
theorem size_setCell_eq (w : World) (a : Addr) (v : Value) : (w.setCell a v).heap.size = w.heap.size := by simp [World.setCell]
theorem szd_small {n : Nat} {l : Int} (h : n ≤ l) : Pl.szd l n = l - n := by unfold Pl.szd; rw [if_neg (by omega)]
theorem szd_big {n : Nat} {l : Int} (h : l < n) : Pl.szd l n = -1 := by unfold Pl.szd; rw [if_pos h]
theorem eqImage_same (W H : Int) (A1 A2 : Option Addr) (n m c1 c2 l1 h1 l2 h2 : Nat) (zs : List Int) (w : World) (I1 : Ints w l1 h1 (.slice A1 n c1) zs) (I2 : Ints w l2 h2 (.slice A2 m c2) zs) :
    Calls Try.prog 11 #[.agg #[.int .i64 W, .int .i64 H, .slice A1 n c1], .agg #[.int .i64 W, .int .i64 H, .slice A2 m c2]] w fun e w' => e = .returned (.bool true) ∧ Below w.heap.size w w' := by
  have h := eqImage_any W H W H A1 A2 n m c1 c2 l1 h1 l2 h2 zs zs w I1 I2
  simpa using h
/-- A new variable that holds an image. -/
def NewVarI (J wx : World) (b : Nat) (W H : Int) (zs : List Int) : Prop :=
  ∃ (A : Option Addr) (c lo hi : Nat), J.heap.size ≤ b ∧ J.heap.size ≤ lo ∧ hi ≤ wx.heap.size ∧ (b < lo ∨ hi ≤ b) ∧ VB wx b [.int .i64 W, .int .i64 H, .slice A zs.length c] ∧ Ints wx lo hi (.slice A zs.length c) zs ∧ Below J.heap.size J wx
theorem Pl.copyRegion_length (i j : Pl.Img) (r : List Pl.R) : (Pl.copyRegion i j r).d.length = i.d.length := by
  unfold Pl.copyRegion
  split
  · dsimp only; rw [Pl.copyK_length]
  · rfl
set_option maxRecDepth 100000 in
set_option maxHeartbeats 8000000 in
theorem walkFnExactCopyRegion (ix0 iy0 : Int) (A0 : Option Addr) (n0 c0 : Nat) (z0 : List Int) (ix1 iy1 : Int) (A1 : Option Addr) (n1 c1 : Nat) (z1 : List Int) (A2 : Option Addr) (n2 c2 : Nat) (z2 : List Pl.R) (w : World) (wix0 : (Lit.int .i64 ix0).wf = true) (wiy0 : (Lit.int .i64 iy0).wf = true) (hr0 : IsRow .i64 w A0 n0 c0 z0) (wix1 : (Lit.int .i64 ix1).wf = true) (wiy1 : (Lit.int .i64 iy1).wf = true) (hr1 : IsRow .i64 w A1 n1 c1 z1) (hr2 : IsRects w A2 n2 c2 z2) : Calls Try.prog 4 #[.agg #[.int .i64 ix0, .int .i64 iy0, .slice A0 n0 c0], .agg #[.int .i64 ix1, .int .i64 iy1, .slice A1 n1 c1], .agg #[.slice A2 n2 c2]] w fun e w' => e = .returned (.bool true) ∧ Below w.heap.size w w' := by
  have bbw : Hid (Below w.heap.size w w) := Lib.hid (Below.refl _ _)
  obtain ⟨ha0, hl0, hm0, hq0⟩ := Arg.of_row hr0
  generalize z0.take n0 = zs0 at *
  have arg0 := Lib.hid ha0
  have L0 := Lib.hid hl0
  clear ha0 hl0 hr0 hq0 wix0 wiy0
  obtain ⟨ha1, hl1, hm1, hq1⟩ := Arg.of_row hr1
  generalize z1.take n1 = zs1 at *
  have arg1 := Lib.hid ha1
  have L1 := Lib.hid hl1
  clear ha1 hl1 hr1 hq1 wix1 wiy1
  obtain ⟨ha2, hl2, hm2⟩ := RArg.of_rects hr2
  generalize z2.take n2 = zs2 at *
  have arg2 := Lib.hid ha2
  have L2 := Lib.hid hl2
  clear ha2 hl2 hr2
  by_cases hbig0 : 1048576 < (n0 : Int)
  · have hs := szd_big hbig0
    have HS := Lib.hid hs
    clear hs
    go_enter Try.func4, Try.ntmps4
    go_wp2_with fail
    have Va0w1 := Lib.hid (((VB.new (w := w) (b := w.heap.size) (t := 24) (cs := [.int .i64 ix0,.int .i64 iy0,.slice A0 n0 c0]) (by simp)).alloc (.cells #[.int .i64 ix1, .int .i64 iy1, .slice A1 n1 c1] 24 (0, 0))).alloc (.cells #[.slice A2 n2 c2] 39 (0, 0)))
    have Va1w1 := Lib.hid ((VB.new (w := (w.alloc (.cells #[.int .i64 ix0, .int .i64 iy0, .slice A0 n0 c0] 24 (0, 0)))) (b := w.heap.size + 1) (t := 24) (cs := [.int .i64 ix1,.int .i64 iy1,.slice A1 n1 c1]) (by simp)).alloc (.cells #[.slice A2 n2 c2] 39 (0, 0)))
    have Va2w1 := Lib.hid (VB.new (w := ((w.alloc (.cells #[.int .i64 ix0, .int .i64 iy0, .slice A0 n0 c0] 24 (0, 0))).alloc (.cells #[.int .i64 ix1, .int .i64 iy1, .slice A1 n1 c1] 24 (0, 0)))) (b := w.heap.size + 1 + 1) (t := 39) (cs := [.slice A2 n2 c2]) (by simp))
    have hbw1 : Below w.heap.size w (((w.alloc (.cells #[.int .i64 ix0, .int .i64 iy0, .slice A0 n0 c0] 24 (0, 0))).alloc (.cells #[.int .i64 ix1, .int .i64 iy1, .slice A1 n1 c1] 24 (0, 0))).alloc (.cells #[.slice A2 n2 c2] 39 (0, 0))) := by go_grown
    have bbw1 : Hid (Below w.heap.size w (((w.alloc (.cells #[.int .i64 ix0, .int .i64 iy0, .slice A0 n0 c0] 24 (0, 0))).alloc (.cells #[.int .i64 ix1, .int .i64 iy1, .slice A1 n1 c1] 24 (0, 0))).alloc (.cells #[.slice A2 n2 c2] 39 (0, 0)))) := Lib.hid (later bbw.out hbw1)
    have hzw1 : w.heap.size + 3 ≤ (((w.alloc (.cells #[.int .i64 ix0, .int .i64 iy0, .slice A0 n0 c0] 24 (0, 0))).alloc (.cells #[.int .i64 ix1, .int .i64 iy1, .slice A1 n1 c1] 24 (0, 0))).alloc (.cells #[.slice A2 n2 c2] 39 (0, 0))).heap.size := by simp
    generalize (((w.alloc (.cells #[.int .i64 ix0, .int .i64 iy0, .slice A0 n0 c0] 24 (0, 0))).alloc (.cells #[.int .i64 ix1, .int .i64 iy1, .slice A1 n1 c1] 24 (0, 0))).alloc (.cells #[.slice A2 n2 c2] 39 (0, 0))) = w1 at *
    obtain ⟨la0w1, ca0w1_0, ca0w1_1, ca0w1_2, fa0w1_0, fa0w1_1, fa0w1_2⟩ := Va0w1.out.open3
    obtain ⟨la1w1, ca1w1_0, ca1w1_1, ca1w1_2, fa1w1_0, fa1w1_1, fa1w1_2⟩ := Va1w1.out.open3
    obtain ⟨la2w1, ca2w1_0, fa2w1_0⟩ := Va2w1.out.open1
    refine (szImage_any _ _ _ _ _ _ _ (by omega) (by omega) (by omega)).mono ?_
    rintro e w2 ⟨rfl, hbw2⟩
    clear la0w1 ca0w1_0 ca0w1_1 ca0w1_2 fa0w1_0 fa0w1_1 fa0w1_2 la1w1 ca1w1_0 ca1w1_1 ca1w1_2 fa1w1_0 fa1w1_1 fa1w1_2 la2w1 ca2w1_0 fa2w1_0
    have bbw2 := Lib.hid (later bbw1.out hbw2)
    have hzw2 := hbw2.size
    have Va0w2 := Lib.hid (Va0w1.out.step hbw2)
    have Va1w2 := Lib.hid (Va1w1.out.step hbw2)
    have Va2w2 := Lib.hid (Va2w1.out.step hbw2)
    clear Va0w1
    clear Va1w1
    clear Va2w1
    obtain ⟨la0w2, ca0w2_0, ca0w2_1, ca0w2_2, fa0w2_0, fa0w2_1, fa0w2_2⟩ := Va0w2.out.open3
    obtain ⟨la1w2, ca1w2_0, ca1w2_1, ca1w2_2, fa1w2_0, fa1w2_1, fa1w2_2⟩ := Va1w2.out.open3
    obtain ⟨la2w2, ca2w2_0, fa2w2_0⟩ := Va2w2.out.open1
    rw [HS.out]
    go_wp2_with fail
    go_ret
    exact ⟨rfl, bbw2.out⟩
  by_cases hbig1 : 1048576 - (n0 : Int) < (n1 : Int)
  · have hs := szd_big hbig1
    have HS := Lib.hid hs
    clear hs
    go_enter Try.func4, Try.ntmps4
    go_wp2_with fail
    have Va0w3 := Lib.hid (((VB.new (w := w) (b := w.heap.size) (t := 24) (cs := [.int .i64 ix0,.int .i64 iy0,.slice A0 n0 c0]) (by simp)).alloc (.cells #[.int .i64 ix1, .int .i64 iy1, .slice A1 n1 c1] 24 (0, 0))).alloc (.cells #[.slice A2 n2 c2] 39 (0, 0)))
    have Va1w3 := Lib.hid ((VB.new (w := (w.alloc (.cells #[.int .i64 ix0, .int .i64 iy0, .slice A0 n0 c0] 24 (0, 0)))) (b := w.heap.size + 1) (t := 24) (cs := [.int .i64 ix1,.int .i64 iy1,.slice A1 n1 c1]) (by simp)).alloc (.cells #[.slice A2 n2 c2] 39 (0, 0)))
    have Va2w3 := Lib.hid (VB.new (w := ((w.alloc (.cells #[.int .i64 ix0, .int .i64 iy0, .slice A0 n0 c0] 24 (0, 0))).alloc (.cells #[.int .i64 ix1, .int .i64 iy1, .slice A1 n1 c1] 24 (0, 0)))) (b := w.heap.size + 1 + 1) (t := 39) (cs := [.slice A2 n2 c2]) (by simp))
    have hbw3 : Below w.heap.size w (((w.alloc (.cells #[.int .i64 ix0, .int .i64 iy0, .slice A0 n0 c0] 24 (0, 0))).alloc (.cells #[.int .i64 ix1, .int .i64 iy1, .slice A1 n1 c1] 24 (0, 0))).alloc (.cells #[.slice A2 n2 c2] 39 (0, 0))) := by go_grown
    have bbw3 : Hid (Below w.heap.size w (((w.alloc (.cells #[.int .i64 ix0, .int .i64 iy0, .slice A0 n0 c0] 24 (0, 0))).alloc (.cells #[.int .i64 ix1, .int .i64 iy1, .slice A1 n1 c1] 24 (0, 0))).alloc (.cells #[.slice A2 n2 c2] 39 (0, 0)))) := Lib.hid (later bbw.out hbw3)
    have hzw3 : w.heap.size + 3 ≤ (((w.alloc (.cells #[.int .i64 ix0, .int .i64 iy0, .slice A0 n0 c0] 24 (0, 0))).alloc (.cells #[.int .i64 ix1, .int .i64 iy1, .slice A1 n1 c1] 24 (0, 0))).alloc (.cells #[.slice A2 n2 c2] 39 (0, 0))).heap.size := by simp
    generalize (((w.alloc (.cells #[.int .i64 ix0, .int .i64 iy0, .slice A0 n0 c0] 24 (0, 0))).alloc (.cells #[.int .i64 ix1, .int .i64 iy1, .slice A1 n1 c1] 24 (0, 0))).alloc (.cells #[.slice A2 n2 c2] 39 (0, 0))) = w3 at *
    obtain ⟨la0w3, ca0w3_0, ca0w3_1, ca0w3_2, fa0w3_0, fa0w3_1, fa0w3_2⟩ := Va0w3.out.open3
    obtain ⟨la1w3, ca1w3_0, ca1w3_1, ca1w3_2, fa1w3_0, fa1w3_1, fa1w3_2⟩ := Va1w3.out.open3
    obtain ⟨la2w3, ca2w3_0, fa2w3_0⟩ := Va2w3.out.open1
    refine (szImage_any _ _ _ _ _ _ _ (by omega) (by omega) (by omega)).mono ?_
    rintro e w4 ⟨rfl, hbw4⟩
    clear la0w3 ca0w3_0 ca0w3_1 ca0w3_2 fa0w3_0 fa0w3_1 fa0w3_2 la1w3 ca1w3_0 ca1w3_1 ca1w3_2 fa1w3_0 fa1w3_1 fa1w3_2 la2w3 ca2w3_0 fa2w3_0
    have bbw4 := Lib.hid (later bbw3.out hbw4)
    have hzw4 := hbw4.size
    have Va0w4 := Lib.hid (Va0w3.out.step hbw4)
    have Va1w4 := Lib.hid (Va1w3.out.step hbw4)
    have Va2w4 := Lib.hid (Va2w3.out.step hbw4)
    clear Va0w3
    clear Va1w3
    clear Va2w3
    obtain ⟨la0w4, ca0w4_0, ca0w4_1, ca0w4_2, fa0w4_0, fa0w4_1, fa0w4_2⟩ := Va0w4.out.open3
    obtain ⟨la1w4, ca1w4_0, ca1w4_1, ca1w4_2, fa1w4_0, fa1w4_1, fa1w4_2⟩ := Va1w4.out.open3
    obtain ⟨la2w4, ca2w4_0, fa2w4_0⟩ := Va2w4.out.open1
    rw [szd_small (by omega)]
    go_wp2_with fail
    refine (szImage_any _ _ _ _ _ _ _ (by omega) (by omega) (by omega)).mono ?_
    rintro e w5 ⟨rfl, hbw5⟩
    clear la0w4 ca0w4_0 ca0w4_1 ca0w4_2 fa0w4_0 fa0w4_1 fa0w4_2 la1w4 ca1w4_0 ca1w4_1 ca1w4_2 fa1w4_0 fa1w4_1 fa1w4_2 la2w4 ca2w4_0 fa2w4_0
    have bbw5 := Lib.hid (later bbw4.out hbw5)
    have hzw5 := hbw5.size
    have Va0w5 := Lib.hid (Va0w4.out.step hbw5)
    have Va1w5 := Lib.hid (Va1w4.out.step hbw5)
    have Va2w5 := Lib.hid (Va2w4.out.step hbw5)
    clear Va0w4
    clear Va1w4
    clear Va2w4
    obtain ⟨la0w5, ca0w5_0, ca0w5_1, ca0w5_2, fa0w5_0, fa0w5_1, fa0w5_2⟩ := Va0w5.out.open3
    obtain ⟨la1w5, ca1w5_0, ca1w5_1, ca1w5_2, fa1w5_0, fa1w5_1, fa1w5_2⟩ := Va1w5.out.open3
    obtain ⟨la2w5, ca2w5_0, fa2w5_0⟩ := Va2w5.out.open1
    rw [HS.out]
    go_wp2_with fail
    go_ret
    exact ⟨rfl, bbw5.out⟩
  by_cases hbig2 : 1048576 - (n0 : Int) - (n1 : Int) < (n2 : Int)
  · have hs := szd_big hbig2
    have HS := Lib.hid hs
    clear hs
    go_enter Try.func4, Try.ntmps4
    go_wp2_with fail
    have Va0w6 := Lib.hid (((VB.new (w := w) (b := w.heap.size) (t := 24) (cs := [.int .i64 ix0,.int .i64 iy0,.slice A0 n0 c0]) (by simp)).alloc (.cells #[.int .i64 ix1, .int .i64 iy1, .slice A1 n1 c1] 24 (0, 0))).alloc (.cells #[.slice A2 n2 c2] 39 (0, 0)))
    have Va1w6 := Lib.hid ((VB.new (w := (w.alloc (.cells #[.int .i64 ix0, .int .i64 iy0, .slice A0 n0 c0] 24 (0, 0)))) (b := w.heap.size + 1) (t := 24) (cs := [.int .i64 ix1,.int .i64 iy1,.slice A1 n1 c1]) (by simp)).alloc (.cells #[.slice A2 n2 c2] 39 (0, 0)))
    have Va2w6 := Lib.hid (VB.new (w := ((w.alloc (.cells #[.int .i64 ix0, .int .i64 iy0, .slice A0 n0 c0] 24 (0, 0))).alloc (.cells #[.int .i64 ix1, .int .i64 iy1, .slice A1 n1 c1] 24 (0, 0)))) (b := w.heap.size + 1 + 1) (t := 39) (cs := [.slice A2 n2 c2]) (by simp))
    have hbw6 : Below w.heap.size w (((w.alloc (.cells #[.int .i64 ix0, .int .i64 iy0, .slice A0 n0 c0] 24 (0, 0))).alloc (.cells #[.int .i64 ix1, .int .i64 iy1, .slice A1 n1 c1] 24 (0, 0))).alloc (.cells #[.slice A2 n2 c2] 39 (0, 0))) := by go_grown
    have bbw6 : Hid (Below w.heap.size w (((w.alloc (.cells #[.int .i64 ix0, .int .i64 iy0, .slice A0 n0 c0] 24 (0, 0))).alloc (.cells #[.int .i64 ix1, .int .i64 iy1, .slice A1 n1 c1] 24 (0, 0))).alloc (.cells #[.slice A2 n2 c2] 39 (0, 0)))) := Lib.hid (later bbw.out hbw6)
    have hzw6 : w.heap.size + 3 ≤ (((w.alloc (.cells #[.int .i64 ix0, .int .i64 iy0, .slice A0 n0 c0] 24 (0, 0))).alloc (.cells #[.int .i64 ix1, .int .i64 iy1, .slice A1 n1 c1] 24 (0, 0))).alloc (.cells #[.slice A2 n2 c2] 39 (0, 0))).heap.size := by simp
    generalize (((w.alloc (.cells #[.int .i64 ix0, .int .i64 iy0, .slice A0 n0 c0] 24 (0, 0))).alloc (.cells #[.int .i64 ix1, .int .i64 iy1, .slice A1 n1 c1] 24 (0, 0))).alloc (.cells #[.slice A2 n2 c2] 39 (0, 0))) = w6 at *
    obtain ⟨la0w6, ca0w6_0, ca0w6_1, ca0w6_2, fa0w6_0, fa0w6_1, fa0w6_2⟩ := Va0w6.out.open3
    obtain ⟨la1w6, ca1w6_0, ca1w6_1, ca1w6_2, fa1w6_0, fa1w6_1, fa1w6_2⟩ := Va1w6.out.open3
    obtain ⟨la2w6, ca2w6_0, fa2w6_0⟩ := Va2w6.out.open1
    refine (szImage_any _ _ _ _ _ _ _ (by omega) (by omega) (by omega)).mono ?_
    rintro e w7 ⟨rfl, hbw7⟩
    clear la0w6 ca0w6_0 ca0w6_1 ca0w6_2 fa0w6_0 fa0w6_1 fa0w6_2 la1w6 ca1w6_0 ca1w6_1 ca1w6_2 fa1w6_0 fa1w6_1 fa1w6_2 la2w6 ca2w6_0 fa2w6_0
    have bbw7 := Lib.hid (later bbw6.out hbw7)
    have hzw7 := hbw7.size
    have Va0w7 := Lib.hid (Va0w6.out.step hbw7)
    have Va1w7 := Lib.hid (Va1w6.out.step hbw7)
    have Va2w7 := Lib.hid (Va2w6.out.step hbw7)
    clear Va0w6
    clear Va1w6
    clear Va2w6
    obtain ⟨la0w7, ca0w7_0, ca0w7_1, ca0w7_2, fa0w7_0, fa0w7_1, fa0w7_2⟩ := Va0w7.out.open3
    obtain ⟨la1w7, ca1w7_0, ca1w7_1, ca1w7_2, fa1w7_0, fa1w7_1, fa1w7_2⟩ := Va1w7.out.open3
    obtain ⟨la2w7, ca2w7_0, fa2w7_0⟩ := Va2w7.out.open1
    rw [szd_small (by omega)]
    go_wp2_with fail
    refine (szImage_any _ _ _ _ _ _ _ (by omega) (by omega) (by omega)).mono ?_
    rintro e w8 ⟨rfl, hbw8⟩
    clear la0w7 ca0w7_0 ca0w7_1 ca0w7_2 fa0w7_0 fa0w7_1 fa0w7_2 la1w7 ca1w7_0 ca1w7_1 ca1w7_2 fa1w7_0 fa1w7_1 fa1w7_2 la2w7 ca2w7_0 fa2w7_0
    have bbw8 := Lib.hid (later bbw7.out hbw8)
    have hzw8 := hbw8.size
    have Va0w8 := Lib.hid (Va0w7.out.step hbw8)
    have Va1w8 := Lib.hid (Va1w7.out.step hbw8)
    have Va2w8 := Lib.hid (Va2w7.out.step hbw8)
    clear Va0w7
    clear Va1w7
    clear Va2w7
    obtain ⟨la0w8, ca0w8_0, ca0w8_1, ca0w8_2, fa0w8_0, fa0w8_1, fa0w8_2⟩ := Va0w8.out.open3
    obtain ⟨la1w8, ca1w8_0, ca1w8_1, ca1w8_2, fa1w8_0, fa1w8_1, fa1w8_2⟩ := Va1w8.out.open3
    obtain ⟨la2w8, ca2w8_0, fa2w8_0⟩ := Va2w8.out.open1
    rw [szd_small (by omega)]
    go_wp2_with fail
    refine (szRegion_any _ _ _ _ _ (by omega) (by omega) (by omega)).mono ?_
    rintro e w9 ⟨rfl, hbw9⟩
    clear la0w8 ca0w8_0 ca0w8_1 ca0w8_2 fa0w8_0 fa0w8_1 fa0w8_2 la1w8 ca1w8_0 ca1w8_1 ca1w8_2 fa1w8_0 fa1w8_1 fa1w8_2 la2w8 ca2w8_0 fa2w8_0
    have bbw9 := Lib.hid (later bbw8.out hbw9)
    have hzw9 := hbw9.size
    have Va0w9 := Lib.hid (Va0w8.out.step hbw9)
    have Va1w9 := Lib.hid (Va1w8.out.step hbw9)
    have Va2w9 := Lib.hid (Va2w8.out.step hbw9)
    clear Va0w8
    clear Va1w8
    clear Va2w8
    obtain ⟨la0w9, ca0w9_0, ca0w9_1, ca0w9_2, fa0w9_0, fa0w9_1, fa0w9_2⟩ := Va0w9.out.open3
    obtain ⟨la1w9, ca1w9_0, ca1w9_1, ca1w9_2, fa1w9_0, fa1w9_1, fa1w9_2⟩ := Va1w9.out.open3
    obtain ⟨la2w9, ca2w9_0, fa2w9_0⟩ := Va2w9.out.open1
    rw [HS.out]
    go_wp2_with fail
    go_ret
    exact ⟨rfl, bbw9.out⟩
  have hsm0 : n0 ≤ 1048576 := by omega
  have hN0 : zs0.length ≤ 1048576 := by rw [L0.out]; exact hsm0
  have hsm1 : n1 ≤ 1048576 := by omega
  have hN1 : zs1.length ≤ 1048576 := by rw [L1.out]; exact hsm1
  have hsm2 : n2 ≤ 1048576 := by omega
  have hN2 : zs2.length ≤ 1048576 := by rw [L2.out]; exact hsm2
  go_enter Try.func4, Try.ntmps4
  go_wp2_with fail
  have Va0w10 := Lib.hid (((VB.new (w := w) (b := w.heap.size) (t := 24) (cs := [.int .i64 ix0,.int .i64 iy0,.slice A0 n0 c0]) (by simp)).alloc (.cells #[.int .i64 ix1, .int .i64 iy1, .slice A1 n1 c1] 24 (0, 0))).alloc (.cells #[.slice A2 n2 c2] 39 (0, 0)))
  have Va1w10 := Lib.hid ((VB.new (w := (w.alloc (.cells #[.int .i64 ix0, .int .i64 iy0, .slice A0 n0 c0] 24 (0, 0)))) (b := w.heap.size + 1) (t := 24) (cs := [.int .i64 ix1,.int .i64 iy1,.slice A1 n1 c1]) (by simp)).alloc (.cells #[.slice A2 n2 c2] 39 (0, 0)))
  have Va2w10 := Lib.hid (VB.new (w := ((w.alloc (.cells #[.int .i64 ix0, .int .i64 iy0, .slice A0 n0 c0] 24 (0, 0))).alloc (.cells #[.int .i64 ix1, .int .i64 iy1, .slice A1 n1 c1] 24 (0, 0)))) (b := w.heap.size + 1 + 1) (t := 39) (cs := [.slice A2 n2 c2]) (by simp))
  have hbw10 : Below w.heap.size w (((w.alloc (.cells #[.int .i64 ix0, .int .i64 iy0, .slice A0 n0 c0] 24 (0, 0))).alloc (.cells #[.int .i64 ix1, .int .i64 iy1, .slice A1 n1 c1] 24 (0, 0))).alloc (.cells #[.slice A2 n2 c2] 39 (0, 0))) := by go_grown
  have bbw10 : Hid (Below w.heap.size w (((w.alloc (.cells #[.int .i64 ix0, .int .i64 iy0, .slice A0 n0 c0] 24 (0, 0))).alloc (.cells #[.int .i64 ix1, .int .i64 iy1, .slice A1 n1 c1] 24 (0, 0))).alloc (.cells #[.slice A2 n2 c2] 39 (0, 0)))) := Lib.hid (later bbw.out hbw10)
  have hzw10 : w.heap.size + 3 ≤ (((w.alloc (.cells #[.int .i64 ix0, .int .i64 iy0, .slice A0 n0 c0] 24 (0, 0))).alloc (.cells #[.int .i64 ix1, .int .i64 iy1, .slice A1 n1 c1] 24 (0, 0))).alloc (.cells #[.slice A2 n2 c2] 39 (0, 0))).heap.size := by simp
  generalize (((w.alloc (.cells #[.int .i64 ix0, .int .i64 iy0, .slice A0 n0 c0] 24 (0, 0))).alloc (.cells #[.int .i64 ix1, .int .i64 iy1, .slice A1 n1 c1] 24 (0, 0))).alloc (.cells #[.slice A2 n2 c2] 39 (0, 0))) = w10 at *
  obtain ⟨la0w10, ca0w10_0, ca0w10_1, ca0w10_2, fa0w10_0, fa0w10_1, fa0w10_2⟩ := Va0w10.out.open3
  obtain ⟨la1w10, ca1w10_0, ca1w10_1, ca1w10_2, fa1w10_0, fa1w10_1, fa1w10_2⟩ := Va1w10.out.open3
  obtain ⟨la2w10, ca2w10_0, fa2w10_0⟩ := Va2w10.out.open1
  refine (szImage_any _ _ _ _ _ _ _ (by omega) (by omega) (by omega)).mono ?_
  rintro e w11 ⟨rfl, hbw11⟩
  clear la0w10 ca0w10_0 ca0w10_1 ca0w10_2 fa0w10_0 fa0w10_1 fa0w10_2 la1w10 ca1w10_0 ca1w10_1 ca1w10_2 fa1w10_0 fa1w10_1 fa1w10_2 la2w10 ca2w10_0 fa2w10_0
  have bbw11 := Lib.hid (later bbw10.out hbw11)
  have hzw11 := hbw11.size
  have Va0w11 := Lib.hid (Va0w10.out.step hbw11)
  have Va1w11 := Lib.hid (Va1w10.out.step hbw11)
  have Va2w11 := Lib.hid (Va2w10.out.step hbw11)
  clear Va0w10
  clear Va1w10
  clear Va2w10
  obtain ⟨la0w11, ca0w11_0, ca0w11_1, ca0w11_2, fa0w11_0, fa0w11_1, fa0w11_2⟩ := Va0w11.out.open3
  obtain ⟨la1w11, ca1w11_0, ca1w11_1, ca1w11_2, fa1w11_0, fa1w11_1, fa1w11_2⟩ := Va1w11.out.open3
  obtain ⟨la2w11, ca2w11_0, fa2w11_0⟩ := Va2w11.out.open1
  rw [szd_small (by omega)]
  go_wp2_with fail
  refine (szImage_any _ _ _ _ _ _ _ (by omega) (by omega) (by omega)).mono ?_
  rintro e w12 ⟨rfl, hbw12⟩
  clear la0w11 ca0w11_0 ca0w11_1 ca0w11_2 fa0w11_0 fa0w11_1 fa0w11_2 la1w11 ca1w11_0 ca1w11_1 ca1w11_2 fa1w11_0 fa1w11_1 fa1w11_2 la2w11 ca2w11_0 fa2w11_0
  have bbw12 := Lib.hid (later bbw11.out hbw12)
  have hzw12 := hbw12.size
  have Va0w12 := Lib.hid (Va0w11.out.step hbw12)
  have Va1w12 := Lib.hid (Va1w11.out.step hbw12)
  have Va2w12 := Lib.hid (Va2w11.out.step hbw12)
  clear Va0w11
  clear Va1w11
  clear Va2w11
  obtain ⟨la0w12, ca0w12_0, ca0w12_1, ca0w12_2, fa0w12_0, fa0w12_1, fa0w12_2⟩ := Va0w12.out.open3
  obtain ⟨la1w12, ca1w12_0, ca1w12_1, ca1w12_2, fa1w12_0, fa1w12_1, fa1w12_2⟩ := Va1w12.out.open3
  obtain ⟨la2w12, ca2w12_0, fa2w12_0⟩ := Va2w12.out.open1
  rw [szd_small (by omega)]
  go_wp2_with fail
  refine (szRegion_any _ _ _ _ _ (by omega) (by omega) (by omega)).mono ?_
  rintro e w13 ⟨rfl, hbw13⟩
  clear la0w12 ca0w12_0 ca0w12_1 ca0w12_2 fa0w12_0 fa0w12_1 fa0w12_2 la1w12 ca1w12_0 ca1w12_1 ca1w12_2 fa1w12_0 fa1w12_1 fa1w12_2 la2w12 ca2w12_0 fa2w12_0
  have bbw13 := Lib.hid (later bbw12.out hbw13)
  have hzw13 := hbw13.size
  have Va0w13 := Lib.hid (Va0w12.out.step hbw13)
  have Va1w13 := Lib.hid (Va1w12.out.step hbw13)
  have Va2w13 := Lib.hid (Va2w12.out.step hbw13)
  clear Va0w12
  clear Va1w12
  clear Va2w12
  obtain ⟨la0w13, ca0w13_0, ca0w13_1, ca0w13_2, fa0w13_0, fa0w13_1, fa0w13_2⟩ := Va0w13.out.open3
  obtain ⟨la1w13, ca1w13_0, ca1w13_1, ca1w13_2, fa1w13_0, fa1w13_1, fa1w13_2⟩ := Va1w13.out.open3
  obtain ⟨la2w13, ca2w13_0, fa2w13_0⟩ := Va2w13.out.open1
  rw [szd_small (by omega)]
  have h256 : (Pl.copyRegion ⟨ix0, iy0, zs0⟩ ⟨ix1, iy1, zs1⟩ zs2).d.length ≤ 1048576 := by rw [Pl.copyRegion_length]; exact hN0
  go_wp2_with fail
  go_cut [8] (fun s8 wx => ∃ b : Nat, s8 = .pointer (some ⟨b, 0, none⟩) ∧ NewVarI w13 wx b (Pl.copyRegion ⟨ix0, iy0, zs0⟩ ⟨ix1, iy1, zs1⟩ zs2).w (Pl.copyRegion ⟨ix0, iy0, zs0⟩ ⟨ix1, iy1, zs1⟩ zs2).h (Pl.copyRegion ⟨ix0, iy0, zs0⟩ ⟨ix1, iy1, zs1⟩ zs2).d)
  case first =>
    clear la0w13 ca0w13_0 ca0w13_1 ca0w13_2 fa0w13_0 fa0w13_1 fa0w13_2 la1w13 ca1w13_0 ca1w13_1 ca1w13_2 fa1w13_0 fa1w13_1 fa1w13_2 la2w13 ca2w13_0 fa2w13_0
    have bbw14 : Hid (Below w.heap.size w w13.drew) := Lib.hid (Below.drew bbw13.out)
    have bjw14 : Hid (Below w13.heap.size w13 w13.drew) := Lib.hid (Below.drew (Below.refl _ _))
    have hzw14 : w13.heap.size ≤ w13.drew.heap.size := Nat.le_refl _
    have Va0w14 := Lib.hid (VB.drew Va0w13.out)
    have Va1w14 := Lib.hid (VB.drew Va1w13.out)
    have Va2w14 := Lib.hid (VB.drew Va2w13.out)
    refine regionL (S := (fun w' => VB w' (w.heap.size) [.int .i64 ix0, .int .i64 iy0, .slice A0 n0 c0] ∧ VB w' (w.heap.size + 1) [.int .i64 ix1, .int .i64 iy1, .slice A1 n1 c1] ∧ VB w' (w.heap.size + 1 + 1) [.slice A2 n2 c2])) (L := 8) (by kernel_rfl) ?_ (fun hHeld => ?_)
    · (first | exact ⟨VB.step (hHeld.1) B9, VB.step (hHeld.2.1) B9, VB.step (hHeld.2.2) B9⟩ | exact ⟨VB.drew Va0w13.out, VB.drew Va1w13.out, VB.drew Va2w13.out⟩)
    refine takeL (i := 0) (oi := ?_) (v := ?_) ?_ (by kernel_rfl) (by kernel_rfl) (by kernel_rfl) (by kernel_rfl) ?_ (Or.inl ⟨?_, ?_⟩) (by assumption) ?_
    rotate_left 2
    · (simp only [List.getElem?_toArray, List.getElem?_cons_succ, List.getElem?_cons_zero]; rfl)
    · exact fun _ _ _ h => h
    · rfl
    · (intro w hSw; (try dsimp only at hSw); obtain ⟨S0, S1, S2⟩ := hSw; obtain ⟨l0S, c0S0, c0S1, c0S2, _⟩ := S0.open3; obtain ⟨l1S, c1S0, c1S1, c1S2, _⟩ := S1.open3; obtain ⟨l2S, c2S0, _⟩ := S2.open1; clear S0 S1 S2; go_simp; (try with_reducible rfl))
    try simp only [Act.put, List.setIfInBounds_toArray, List.set_cons_zero, List.set_cons_succ]
    refine takeL (i := 2) (oi := ?_) (v := ?_) ?_ (by kernel_rfl) (by kernel_rfl) (by kernel_rfl) (by kernel_rfl) ?_ (Or.inl ⟨?_, ?_⟩) (by assumption) ?_
    rotate_left 2
    · (simp only [List.getElem?_toArray, List.getElem?_cons_succ, List.getElem?_cons_zero]; rfl)
    · exact fun _ _ _ h => h
    · rfl
    · (intro w hSw; (try dsimp only at hSw); obtain ⟨S0, S1, S2⟩ := hSw; obtain ⟨l0S, c0S0, c0S1, c0S2, _⟩ := S0.open3; obtain ⟨l1S, c1S0, c1S1, c1S2, _⟩ := S1.open3; obtain ⟨l2S, c2S0, _⟩ := S2.open1; clear S0 S1 S2; go_simp; (try with_reducible rfl))
    try simp only [Act.put, List.setIfInBounds_toArray, List.set_cons_zero, List.set_cons_succ]
    refine takeL (i := 4) (oi := ?_) (v := ?_) ?_ (by kernel_rfl) (by kernel_rfl) (by kernel_rfl) (by kernel_rfl) ?_ (Or.inl ⟨?_, ?_⟩) (by assumption) ?_
    rotate_left 2
    · (simp only [List.getElem?_toArray, List.getElem?_cons_succ, List.getElem?_cons_zero]; rfl)
    · exact fun _ _ _ h => h
    · rfl
    · (intro w hSw; (try dsimp only at hSw); obtain ⟨S0, S1, S2⟩ := hSw; obtain ⟨l0S, c0S0, c0S1, c0S2, _⟩ := S0.open3; obtain ⟨l1S, c1S0, c1S1, c1S2, _⟩ := S1.open3; obtain ⟨l2S, c2S0, _⟩ := S2.open1; clear S0 S1 S2; go_simp; (try with_reducible rfl))
    try simp only [Act.put, List.setIfInBounds_toArray, List.set_cons_zero, List.set_cons_succ]
    refine readyL (rs := [1, 7]) (by kernel_rfl) (by simp) ?_
    refine AllReadyL.cons (o := ?_) ?_ (fun K hK => ?_) ?_
    rotate_left
    · (simp only [List.getElem?_toArray, List.getElem?_cons_succ, List.getElem?_cons_zero]; rfl)
    · go_simp
      go_at_call 8
      ((with_reducible refine (toImage_any _ _ _ _ _ zs0 _ (arg0.out.below bbw14.out) L0.out hsm0).mono ?_))
      rintro e w15 ⟨Aw15, kw15, rfl, Ow15, hbw15⟩
      have Pw15 := Lib.hid Ow15
      clear Ow15
      have bbw15 := Lib.hid (later bbw14.out hbw15)
      have hzw15 := hbw15.size
      have Va0w15 := Lib.hid (Va0w14.out.step hbw15)
      have Va1w15 := Lib.hid (Va1w14.out.step hbw15)
      have Va2w15 := Lib.hid (Va2w14.out.step hbw15)
      clear Va0w14
      clear Va1w14
      clear Va2w14
      obtain ⟨la0w15, ca0w15_0, ca0w15_1, ca0w15_2, fa0w15_0, fa0w15_1, fa0w15_2⟩ := Va0w15.out.open3
      obtain ⟨la1w15, ca1w15_0, ca1w15_1, ca1w15_2, fa1w15_0, fa1w15_1, fa1w15_2⟩ := Va1w15.out.open3
      obtain ⟨la2w15, ca2w15_0, fa2w15_0⟩ := Va2w15.out.open1
      have Isw15 := Pw15
      clear Pw15
      have bjw15 := Lib.hid (later bjw14.out hbw15)
      have B9 := hbw15
      refine hK.out _ _ ?_ (fun hHeld => ?_)
      · (first | exact ⟨VB.step (hHeld.1) B9, VB.step (hHeld.2.1) B9, VB.step (hHeld.2.2) B9⟩ | exact ⟨VB.drew Va0w13.out, VB.drew Va1w13.out, VB.drew Va2w13.out⟩)
      clear hK K
      try simp only [Act.put, List.setIfInBounds_toArray, List.set_cons_zero, List.set_cons_succ]
      refine readyL (rs := [3, 7]) (by kernel_rfl) (by simp) ?_
      refine AllReadyL.cons (o := ?_) ?_ (fun K hK => ?_) ?_
      rotate_left
      · (simp only [List.getElem?_toArray, List.getElem?_cons_succ, List.getElem?_cons_zero]; rfl)
      · go_simp
        go_at_call 8
        ((with_reducible refine (toImage_any _ _ _ _ _ zs1 _ (arg1.out.below bbw15.out) L1.out hsm1).mono ?_))
        rintro e w16 ⟨Aw16, kw16, rfl, Ow16, hbw16⟩
        have Pw16 := Lib.hid Ow16
        clear Ow16
        clear la0w15 ca0w15_0 ca0w15_1 ca0w15_2 fa0w15_0 fa0w15_1 fa0w15_2 la1w15 ca1w15_0 ca1w15_1 ca1w15_2 fa1w15_0 fa1w15_1 fa1w15_2 la2w15 ca2w15_0 fa2w15_0
        have bbw16 := Lib.hid (later bbw15.out hbw16)
        have hzw16 := hbw16.size
        have Va0w16 := Lib.hid (Va0w15.out.step hbw16)
        have Va1w16 := Lib.hid (Va1w15.out.step hbw16)
        have Va2w16 := Lib.hid (Va2w15.out.step hbw16)
        have Isw16 : Hid _ := Lib.hid (Isw15.out.step hbw16)
        clear Va0w15
        clear Va1w15
        clear Va2w15
        clear Isw15
        obtain ⟨la0w16, ca0w16_0, ca0w16_1, ca0w16_2, fa0w16_0, fa0w16_1, fa0w16_2⟩ := Va0w16.out.open3
        obtain ⟨la1w16, ca1w16_0, ca1w16_1, ca1w16_2, fa1w16_0, fa1w16_1, fa1w16_2⟩ := Va1w16.out.open3
        obtain ⟨la2w16, ca2w16_0, fa2w16_0⟩ := Va2w16.out.open1
        have Itw16 := Pw16
        clear Pw16
        have bjw16 := Lib.hid (later bjw15.out hbw16)
        have B9 := hbw16
        refine hK.out _ _ ?_ (fun hHeld => ?_)
        · (first | exact ⟨VB.step (hHeld.1) B9, VB.step (hHeld.2.1) B9, VB.step (hHeld.2.2) B9⟩ | exact ⟨VB.drew Va0w13.out, VB.drew Va1w13.out, VB.drew Va2w13.out⟩)
        clear hK K
        try simp only [Act.put, List.setIfInBounds_toArray, List.set_cons_zero, List.set_cons_succ]
        refine readyL (rs := [5, 7]) (by kernel_rfl) (by simp) ?_
        refine AllReadyL.cons (o := ?_) ?_ (fun K hK => ?_) ?_
        rotate_left
        · (simp only [List.getElem?_toArray, List.getElem?_cons_succ, List.getElem?_cons_zero]; rfl)
        · go_simp
          go_at_call 17
          ((with_reducible refine (toRegion_any _ _ _ zs2 _ (arg2.out.below bbw16.out) L2.out hsm2).mono ?_))
          rintro e w17 ⟨Aw17, kw17, rfl, Ow17, hbw17⟩
          have Pw17 := Lib.hid Ow17
          clear Ow17
          clear la0w16 ca0w16_0 ca0w16_1 ca0w16_2 fa0w16_0 fa0w16_1 fa0w16_2 la1w16 ca1w16_0 ca1w16_1 ca1w16_2 fa1w16_0 fa1w16_1 fa1w16_2 la2w16 ca2w16_0 fa2w16_0
          have bbw17 := Lib.hid (later bbw16.out hbw17)
          have hzw17 := hbw17.size
          have Va0w17 := Lib.hid (Va0w16.out.step hbw17)
          have Va1w17 := Lib.hid (Va1w16.out.step hbw17)
          have Va2w17 := Lib.hid (Va2w16.out.step hbw17)
          have Isw17 : Hid _ := Lib.hid (Isw16.out.step hbw17)
          have Itw17 : Hid _ := Lib.hid (Itw16.out.step hbw17)
          clear Va0w16
          clear Va1w16
          clear Va2w16
          clear Isw16
          clear Itw16
          obtain ⟨la0w17, ca0w17_0, ca0w17_1, ca0w17_2, fa0w17_0, fa0w17_1, fa0w17_2⟩ := Va0w17.out.open3
          obtain ⟨la1w17, ca1w17_0, ca1w17_1, ca1w17_2, fa1w17_0, fa1w17_1, fa1w17_2⟩ := Va1w17.out.open3
          obtain ⟨la2w17, ca2w17_0, fa2w17_0⟩ := Va2w17.out.open1
          have Irw17 := Pw17
          clear Pw17
          have bjw17 := Lib.hid (later bjw16.out hbw17)
          have B9 := hbw17
          refine hK.out _ _ ?_ (fun hHeld => ?_)
          · (first | exact ⟨VB.step (hHeld.1) B9, VB.step (hHeld.2.1) B9, VB.step (hHeld.2.2) B9⟩ | exact ⟨VB.drew Va0w13.out, VB.drew Va1w13.out, VB.drew Va2w13.out⟩)
          clear hK K
          try simp only [Act.put, List.setIfInBounds_toArray, List.set_cons_zero, List.set_cons_succ]
          refine readyL (rs := [6, 7]) (by kernel_rfl) (by simp) ?_
          refine AllReadyL.cons (o := ?_) ?_ (fun K hK => ?_) ?_
          rotate_left
          · (simp only [List.getElem?_toArray, List.getElem?_cons_succ, List.getElem?_cons_zero]; rfl)
          · go_simp
            go_at_call 16
            ((with_reducible refine (specCopyRegion ix0 iy0 ix1 iy1 _ _ _ _ _ _ _ _ _ _ _ _ _ zs0 zs1 zs2 _ Isw17.out Itw17.out (Recs.arg Irw17.out) rfl hN0 (by omega)).mono ?_))
            rintro e w18 ⟨Aw18, kw18, rfl, Ow18, hbw18⟩
            have Pw18 := Lib.hid Ow18
            clear Ow18
            clear la0w17 ca0w17_0 ca0w17_1 ca0w17_2 fa0w17_0 fa0w17_1 fa0w17_2 la1w17 ca1w17_0 ca1w17_1 ca1w17_2 fa1w17_0 fa1w17_1 fa1w17_2 la2w17 ca2w17_0 fa2w17_0
            have bbw18 := Lib.hid (later bbw17.out hbw18)
            have hzw18 := hbw18.size
            have Va0w18 := Lib.hid (Va0w17.out.step hbw18)
            have Va1w18 := Lib.hid (Va1w17.out.step hbw18)
            have Va2w18 := Lib.hid (Va2w17.out.step hbw18)
            have Isw18 : Hid _ := Lib.hid (Isw17.out.step hbw18)
            have Itw18 : Hid _ := Lib.hid (Itw17.out.step hbw18)
            have Irw18 : Hid _ := Lib.hid (Irw17.out.step hbw18)
            clear Va0w17
            clear Va1w17
            clear Va2w17
            clear Isw17
            clear Itw17
            clear Irw17
            obtain ⟨la0w18, ca0w18_0, ca0w18_1, ca0w18_2, fa0w18_0, fa0w18_1, fa0w18_2⟩ := Va0w18.out.open3
            obtain ⟨la1w18, ca1w18_0, ca1w18_1, ca1w18_2, fa1w18_0, fa1w18_1, fa1w18_2⟩ := Va1w18.out.open3
            obtain ⟨la2w18, ca2w18_0, fa2w18_0⟩ := Va2w18.out.open1
            have Iw'w18 := Pw18
            clear Pw18
            have bjw18 := Lib.hid (later bjw17.out hbw18)
            have B9 := hbw18
            refine hK.out _ _ ?_ (fun hHeld => ?_)
            · (first | exact ⟨VB.step (hHeld.1) B9, VB.step (hHeld.2.1) B9, VB.step (hHeld.2.2) B9⟩ | exact ⟨VB.drew Va0w13.out, VB.drew Va1w13.out, VB.drew Va2w13.out⟩)
            clear hK K
            try simp only [Act.put, List.setIfInBounds_toArray, List.set_cons_zero, List.set_cons_succ]
            refine readyL (rs := [7]) (by kernel_rfl) (by simp) ?_
            refine AllReadyL.cons (o := ?_) ?_ (fun K hK => ?_) AllReadyL.none_
            rotate_left
            · (simp only [List.getElem?_toArray, List.getElem?_cons_succ, List.getElem?_cons_zero]; rfl)
            go_simp
            have hbw19 : Below (w18).heap.size (w18) (w18.alloc (.cells #[.int .i64 0, .int .i64 0, .slice none 0 0] 30 (0, 0))) := by first | exact (Below.refl _ _).alloc (Nat.le_refl _) _ | exact (show Below (w13.drew).heap.size w13.drew (w13.drew.alloc (.cells #[.int .i64 0, .int .i64 0, .slice none 0 0] 30 (0, 0))) from (Below.refl _ _).alloc (Nat.le_refl _) _)
            have haw19 : w13.heap.size ≤ w18.heap.size := bjw18.out.size
            have hyw19 : (w18).heap.size < (w18.alloc (.cells #[.int .i64 0, .int .i64 0, .slice none 0 0] 30 (0, 0))).heap.size := by simp
            have Zw19 : Hid (VB (w18.alloc (.cells #[.int .i64 0, .int .i64 0, .slice none 0 0] 30 (0, 0))) (w18.heap.size) [.int .i64 0, .int .i64 0, .slice none 0 0]) := Lib.hid (by first | exact VB.new (cs := [.int .i64 0, .int .i64 0, .slice none 0 0]) rfl | exact VB.drew (VB.new (cs := [.int .i64 0, .int .i64 0, .slice none 0 0]) rfl))
            generalize (w18.alloc (.cells #[.int .i64 0, .int .i64 0, .slice none 0 0] 30 (0, 0))) = w19 at *
            clear la0w18 ca0w18_0 ca0w18_1 ca0w18_2 fa0w18_0 fa0w18_1 fa0w18_2 la1w18 ca1w18_0 ca1w18_1 ca1w18_2 fa1w18_0 fa1w18_1 fa1w18_2 la2w18 ca2w18_0 fa2w18_0
            have bbw19 := Lib.hid (later bbw18.out hbw19)
            have hzw19 := hbw19.size
            have Va0w19 := Lib.hid (Va0w18.out.step hbw19)
            have Va1w19 := Lib.hid (Va1w18.out.step hbw19)
            have Va2w19 := Lib.hid (Va2w18.out.step hbw19)
            have Isw19 : Hid _ := Lib.hid (Isw18.out.step hbw19)
            have Itw19 : Hid _ := Lib.hid (Itw18.out.step hbw19)
            have Irw19 : Hid _ := Lib.hid (Irw18.out.step hbw19)
            have Iw'w19 : Hid _ := Lib.hid (Iw'w18.out.step hbw19)
            clear Va0w18
            clear Va1w18
            clear Va2w18
            clear Isw18
            clear Itw18
            clear Irw18
            clear Iw'w18
            obtain ⟨la0w19, ca0w19_0, ca0w19_1, ca0w19_2, fa0w19_0, fa0w19_1, fa0w19_2⟩ := Va0w19.out.open3
            obtain ⟨la1w19, ca1w19_0, ca1w19_1, ca1w19_2, fa1w19_0, fa1w19_1, fa1w19_2⟩ := Va1w19.out.open3
            obtain ⟨la2w19, ca2w19_0, fa2w19_0⟩ := Va2w19.out.open1
            have bjw19 := Lib.hid (later bjw18.out hbw19)
            clear la0w19 ca0w19_0 ca0w19_1 ca0w19_2 fa0w19_0 fa0w19_1 fa0w19_2 la1w19 ca1w19_0 ca1w19_1 ca1w19_2 fa1w19_0 fa1w19_1 fa1w19_2 la2w19 ca2w19_0 fa2w19_0
            have Vww19 := Zw19
            obtain ⟨la0w19, ca0w19_0, ca0w19_1, ca0w19_2, fa0w19_0, fa0w19_1, fa0w19_2⟩ := Va0w19.out.open3
            obtain ⟨la1w19, ca1w19_0, ca1w19_1, ca1w19_2, fa1w19_0, fa1w19_1, fa1w19_2⟩ := Va1w19.out.open3
            obtain ⟨la2w19, ca2w19_0, fa2w19_0⟩ := Va2w19.out.open1
            obtain ⟨lww19, cww19_0, cww19_1, cww19_2, fww19_0, fww19_1, fww19_2⟩ := Vww19.out.open3
            have B9 := hbw19
            refine hK.out _ _ ?_ (fun hHeld => ?_)
            · (first | exact ⟨VB.step (hHeld.1) B9, VB.step (hHeld.2.1) B9, VB.step (hHeld.2.2) B9⟩ | exact ⟨VB.drew Va0w13.out, VB.drew Va1w13.out, VB.drew Va2w13.out⟩)
            clear hK K
            try simp only [Act.put, List.setIfInBounds_toArray, List.set_cons_zero, List.set_cons_succ]
            refine readyL (rs := [8]) (by kernel_rfl) (by simp) ?_
            refine AllReadyL.last (o := ?_) ?_ (fun K hK => ?_)
            rotate_left
            · (simp only [List.getElem?_toArray, List.getElem?_cons_succ, List.getElem?_cons_zero]; rfl)
            go_simp
            refine hK.out _ _ ?_
            clear hK K
            try simp only [Act.put, List.setIfInBounds_toArray, List.set_cons_zero, List.set_cons_succ]
            refine doneL (by kernel_rfl) ?_ _
            go_wp2_with fail
            go_meet
            have e1 : w13.heap.size ≤ w17.heap.size := bjw17.out.size
            have e2 : w18.heap.size ≤ w19.heap.size := Iw'w19.out.hi_le
            case rel => exact ⟨w18.heap.size, rfl, Aw18, kw18, w17.heap.size, w18.heap.size, by omega, e1, Nat.le_trans e2 (Nat.le_of_eq (by simp [World.setCell])), by omega, ((Vww19.out.set 0 _).set 1 _).set 2 _, Ints.setc3 Iw'w19.out (b := w18.heap.size) (by omega) _ _ _, ((bjw19.out.setCell (by show w13.heap.size ≤ w18.heap.size; omega) _).setCell (by show w13.heap.size ≤ w18.heap.size; omega) _).setCell (by show w13.heap.size ≤ w18.heap.size; omega) _⟩
          refine AllReadyL.cons (o := ?_) ?_ (fun K hK => ?_) ?_
          rotate_left
          · (simp only [List.getElem?_toArray, List.getElem?_cons_succ, List.getElem?_cons_zero]; rfl)
          · go_simp
            have hbw20 : Below (w17).heap.size (w17) (w17.alloc (.cells #[.int .i64 0, .int .i64 0, .slice none 0 0] 30 (0, 0))) := by first | exact (Below.refl _ _).alloc (Nat.le_refl _) _ | exact (show Below (w13.drew).heap.size w13.drew (w13.drew.alloc (.cells #[.int .i64 0, .int .i64 0, .slice none 0 0] 30 (0, 0))) from (Below.refl _ _).alloc (Nat.le_refl _) _)
            have haw20 : w13.heap.size ≤ w17.heap.size := bjw17.out.size
            have hyw20 : (w17).heap.size < (w17.alloc (.cells #[.int .i64 0, .int .i64 0, .slice none 0 0] 30 (0, 0))).heap.size := by simp
            have Zw20 : Hid (VB (w17.alloc (.cells #[.int .i64 0, .int .i64 0, .slice none 0 0] 30 (0, 0))) (w17.heap.size) [.int .i64 0, .int .i64 0, .slice none 0 0]) := Lib.hid (by first | exact VB.new (cs := [.int .i64 0, .int .i64 0, .slice none 0 0]) rfl | exact VB.drew (VB.new (cs := [.int .i64 0, .int .i64 0, .slice none 0 0]) rfl))
            generalize (w17.alloc (.cells #[.int .i64 0, .int .i64 0, .slice none 0 0] 30 (0, 0))) = w20 at *
            clear la0w17 ca0w17_0 ca0w17_1 ca0w17_2 fa0w17_0 fa0w17_1 fa0w17_2 la1w17 ca1w17_0 ca1w17_1 ca1w17_2 fa1w17_0 fa1w17_1 fa1w17_2 la2w17 ca2w17_0 fa2w17_0
            have bbw20 := Lib.hid (later bbw17.out hbw20)
            have hzw20 := hbw20.size
            have Va0w20 := Lib.hid (Va0w17.out.step hbw20)
            have Va1w20 := Lib.hid (Va1w17.out.step hbw20)
            have Va2w20 := Lib.hid (Va2w17.out.step hbw20)
            have Isw20 : Hid _ := Lib.hid (Isw17.out.step hbw20)
            have Itw20 : Hid _ := Lib.hid (Itw17.out.step hbw20)
            have Irw20 : Hid _ := Lib.hid (Irw17.out.step hbw20)
            clear Va0w17
            clear Va1w17
            clear Va2w17
            clear Isw17
            clear Itw17
            clear Irw17
            obtain ⟨la0w20, ca0w20_0, ca0w20_1, ca0w20_2, fa0w20_0, fa0w20_1, fa0w20_2⟩ := Va0w20.out.open3
            obtain ⟨la1w20, ca1w20_0, ca1w20_1, ca1w20_2, fa1w20_0, fa1w20_1, fa1w20_2⟩ := Va1w20.out.open3
            obtain ⟨la2w20, ca2w20_0, fa2w20_0⟩ := Va2w20.out.open1
            have bjw20 := Lib.hid (later bjw17.out hbw20)
            clear la0w20 ca0w20_0 ca0w20_1 ca0w20_2 fa0w20_0 fa0w20_1 fa0w20_2 la1w20 ca1w20_0 ca1w20_1 ca1w20_2 fa1w20_0 fa1w20_1 fa1w20_2 la2w20 ca2w20_0 fa2w20_0
            have Vww20 := Zw20
            obtain ⟨la0w20, ca0w20_0, ca0w20_1, ca0w20_2, fa0w20_0, fa0w20_1, fa0w20_2⟩ := Va0w20.out.open3
            obtain ⟨la1w20, ca1w20_0, ca1w20_1, ca1w20_2, fa1w20_0, fa1w20_1, fa1w20_2⟩ := Va1w20.out.open3
            obtain ⟨la2w20, ca2w20_0, fa2w20_0⟩ := Va2w20.out.open1
            obtain ⟨lww20, cww20_0, cww20_1, cww20_2, fww20_0, fww20_1, fww20_2⟩ := Vww20.out.open3
            have B9 := hbw20
            refine hK.out _ _ ?_ (fun hHeld => ?_)
            · (first | exact ⟨VB.step (hHeld.1) B9, VB.step (hHeld.2.1) B9, VB.step (hHeld.2.2) B9⟩ | exact ⟨VB.drew Va0w13.out, VB.drew Va1w13.out, VB.drew Va2w13.out⟩)
            clear hK K
            try simp only [Act.put, List.setIfInBounds_toArray, List.set_cons_zero, List.set_cons_succ]
            refine readyL (rs := [6]) (by kernel_rfl) (by simp) ?_
            refine AllReadyL.cons (o := ?_) ?_ (fun K hK => ?_) AllReadyL.none_
            rotate_left
            · (simp only [List.getElem?_toArray, List.getElem?_cons_succ, List.getElem?_cons_zero]; rfl)
            go_simp
            go_at_call 16
            ((with_reducible refine (specCopyRegion ix0 iy0 ix1 iy1 _ _ _ _ _ _ _ _ _ _ _ _ _ zs0 zs1 zs2 _ Isw20.out Itw20.out (Recs.arg Irw20.out) rfl hN0 (by omega)).mono ?_))
            rintro e w21 ⟨Aw21, kw21, rfl, Ow21, hbw21⟩
            have Pw21 := Lib.hid Ow21
            clear Ow21
            clear la0w20 ca0w20_0 ca0w20_1 ca0w20_2 fa0w20_0 fa0w20_1 fa0w20_2 la1w20 ca1w20_0 ca1w20_1 ca1w20_2 fa1w20_0 fa1w20_1 fa1w20_2 la2w20 ca2w20_0 fa2w20_0 lww20 cww20_0 cww20_1 cww20_2 fww20_0 fww20_1 fww20_2
            have bbw21 := Lib.hid (later bbw20.out hbw21)
            have hzw21 := hbw21.size
            have Va0w21 := Lib.hid (Va0w20.out.step hbw21)
            have Va1w21 := Lib.hid (Va1w20.out.step hbw21)
            have Va2w21 := Lib.hid (Va2w20.out.step hbw21)
            have Vww21 := Lib.hid (Vww20.out.step hbw21)
            have Isw21 : Hid _ := Lib.hid (Isw20.out.step hbw21)
            have Itw21 : Hid _ := Lib.hid (Itw20.out.step hbw21)
            have Irw21 : Hid _ := Lib.hid (Irw20.out.step hbw21)
            clear Va0w20
            clear Va1w20
            clear Va2w20
            clear Vww20
            clear Isw20
            clear Itw20
            clear Irw20
            obtain ⟨la0w21, ca0w21_0, ca0w21_1, ca0w21_2, fa0w21_0, fa0w21_1, fa0w21_2⟩ := Va0w21.out.open3
            obtain ⟨la1w21, ca1w21_0, ca1w21_1, ca1w21_2, fa1w21_0, fa1w21_1, fa1w21_2⟩ := Va1w21.out.open3
            obtain ⟨la2w21, ca2w21_0, fa2w21_0⟩ := Va2w21.out.open1
            obtain ⟨lww21, cww21_0, cww21_1, cww21_2, fww21_0, fww21_1, fww21_2⟩ := Vww21.out.open3
            have Iw'w21 := Pw21
            clear Pw21
            have bjw21 := Lib.hid (later bjw20.out hbw21)
            have B9 := hbw21
            refine hK.out _ _ ?_ (fun hHeld => ?_)
            · (first | exact ⟨VB.step (hHeld.1) B9, VB.step (hHeld.2.1) B9, VB.step (hHeld.2.2) B9⟩ | exact ⟨VB.drew Va0w13.out, VB.drew Va1w13.out, VB.drew Va2w13.out⟩)
            clear hK K
            try simp only [Act.put, List.setIfInBounds_toArray, List.set_cons_zero, List.set_cons_succ]
            refine readyL (rs := [8]) (by kernel_rfl) (by simp) ?_
            refine AllReadyL.last (o := ?_) ?_ (fun K hK => ?_)
            rotate_left
            · (simp only [List.getElem?_toArray, List.getElem?_cons_succ, List.getElem?_cons_zero]; rfl)
            go_simp
            refine hK.out _ _ ?_
            clear hK K
            try simp only [Act.put, List.setIfInBounds_toArray, List.set_cons_zero, List.set_cons_succ]
            refine doneL (by kernel_rfl) ?_ _
            go_wp2_with fail
            go_meet
            have e1 : w13.heap.size ≤ w20.heap.size := bjw20.out.size
            have e2 : w21.heap.size ≤ w21.heap.size := Iw'w21.out.hi_le
            case rel => exact ⟨w17.heap.size, rfl, Aw21, kw21, w20.heap.size, w21.heap.size, by omega, e1, Nat.le_trans e2 (Nat.le_of_eq (by simp [World.setCell])), by omega, ((Vww21.out.set 0 _).set 1 _).set 2 _, Ints.setc3 Iw'w21.out (b := w17.heap.size) (by omega) _ _ _, ((bjw21.out.setCell (by show w13.heap.size ≤ w17.heap.size; omega) _).setCell (by show w13.heap.size ≤ w17.heap.size; omega) _).setCell (by show w13.heap.size ≤ w17.heap.size; omega) _⟩
          exact AllReadyL.none_
        refine AllReadyL.cons (o := ?_) ?_ (fun K hK => ?_) ?_
        rotate_left
        · (simp only [List.getElem?_toArray, List.getElem?_cons_succ, List.getElem?_cons_zero]; rfl)
        · go_simp
          have hbw22 : Below (w16).heap.size (w16) (w16.alloc (.cells #[.int .i64 0, .int .i64 0, .slice none 0 0] 30 (0, 0))) := by first | exact (Below.refl _ _).alloc (Nat.le_refl _) _ | exact (show Below (w13.drew).heap.size w13.drew (w13.drew.alloc (.cells #[.int .i64 0, .int .i64 0, .slice none 0 0] 30 (0, 0))) from (Below.refl _ _).alloc (Nat.le_refl _) _)
          have haw22 : w13.heap.size ≤ w16.heap.size := bjw16.out.size
          have hyw22 : (w16).heap.size < (w16.alloc (.cells #[.int .i64 0, .int .i64 0, .slice none 0 0] 30 (0, 0))).heap.size := by simp
          have Zw22 : Hid (VB (w16.alloc (.cells #[.int .i64 0, .int .i64 0, .slice none 0 0] 30 (0, 0))) (w16.heap.size) [.int .i64 0, .int .i64 0, .slice none 0 0]) := Lib.hid (by first | exact VB.new (cs := [.int .i64 0, .int .i64 0, .slice none 0 0]) rfl | exact VB.drew (VB.new (cs := [.int .i64 0, .int .i64 0, .slice none 0 0]) rfl))
          generalize (w16.alloc (.cells #[.int .i64 0, .int .i64 0, .slice none 0 0] 30 (0, 0))) = w22 at *
          clear la0w16 ca0w16_0 ca0w16_1 ca0w16_2 fa0w16_0 fa0w16_1 fa0w16_2 la1w16 ca1w16_0 ca1w16_1 ca1w16_2 fa1w16_0 fa1w16_1 fa1w16_2 la2w16 ca2w16_0 fa2w16_0
          have bbw22 := Lib.hid (later bbw16.out hbw22)
          have hzw22 := hbw22.size
          have Va0w22 := Lib.hid (Va0w16.out.step hbw22)
          have Va1w22 := Lib.hid (Va1w16.out.step hbw22)
          have Va2w22 := Lib.hid (Va2w16.out.step hbw22)
          have Isw22 : Hid _ := Lib.hid (Isw16.out.step hbw22)
          have Itw22 : Hid _ := Lib.hid (Itw16.out.step hbw22)
          clear Va0w16
          clear Va1w16
          clear Va2w16
          clear Isw16
          clear Itw16
          obtain ⟨la0w22, ca0w22_0, ca0w22_1, ca0w22_2, fa0w22_0, fa0w22_1, fa0w22_2⟩ := Va0w22.out.open3
          obtain ⟨la1w22, ca1w22_0, ca1w22_1, ca1w22_2, fa1w22_0, fa1w22_1, fa1w22_2⟩ := Va1w22.out.open3
          obtain ⟨la2w22, ca2w22_0, fa2w22_0⟩ := Va2w22.out.open1
          have bjw22 := Lib.hid (later bjw16.out hbw22)
          clear la0w22 ca0w22_0 ca0w22_1 ca0w22_2 fa0w22_0 fa0w22_1 fa0w22_2 la1w22 ca1w22_0 ca1w22_1 ca1w22_2 fa1w22_0 fa1w22_1 fa1w22_2 la2w22 ca2w22_0 fa2w22_0
          have Vww22 := Zw22
          obtain ⟨la0w22, ca0w22_0, ca0w22_1, ca0w22_2, fa0w22_0, fa0w22_1, fa0w22_2⟩ := Va0w22.out.open3
          obtain ⟨la1w22, ca1w22_0, ca1w22_1, ca1w22_2, fa1w22_0, fa1w22_1, fa1w22_2⟩ := Va1w22.out.open3
          obtain ⟨la2w22, ca2w22_0, fa2w22_0⟩ := Va2w22.out.open1
          obtain ⟨lww22, cww22_0, cww22_1, cww22_2, fww22_0, fww22_1, fww22_2⟩ := Vww22.out.open3
          have B9 := hbw22
          refine hK.out _ _ ?_ (fun hHeld => ?_)
          · (first | exact ⟨VB.step (hHeld.1) B9, VB.step (hHeld.2.1) B9, VB.step (hHeld.2.2) B9⟩ | exact ⟨VB.drew Va0w13.out, VB.drew Va1w13.out, VB.drew Va2w13.out⟩)
          clear hK K
          try simp only [Act.put, List.setIfInBounds_toArray, List.set_cons_zero, List.set_cons_succ]
          refine readyL (rs := [5]) (by kernel_rfl) (by simp) ?_
          refine AllReadyL.cons (o := ?_) ?_ (fun K hK => ?_) AllReadyL.none_
          rotate_left
          · (simp only [List.getElem?_toArray, List.getElem?_cons_succ, List.getElem?_cons_zero]; rfl)
          go_simp
          go_at_call 17
          ((with_reducible refine (toRegion_any _ _ _ zs2 _ (arg2.out.below bbw22.out) L2.out hsm2).mono ?_))
          rintro e w23 ⟨Aw23, kw23, rfl, Ow23, hbw23⟩
          have Pw23 := Lib.hid Ow23
          clear Ow23
          clear la0w22 ca0w22_0 ca0w22_1 ca0w22_2 fa0w22_0 fa0w22_1 fa0w22_2 la1w22 ca1w22_0 ca1w22_1 ca1w22_2 fa1w22_0 fa1w22_1 fa1w22_2 la2w22 ca2w22_0 fa2w22_0 lww22 cww22_0 cww22_1 cww22_2 fww22_0 fww22_1 fww22_2
          have bbw23 := Lib.hid (later bbw22.out hbw23)
          have hzw23 := hbw23.size
          have Va0w23 := Lib.hid (Va0w22.out.step hbw23)
          have Va1w23 := Lib.hid (Va1w22.out.step hbw23)
          have Va2w23 := Lib.hid (Va2w22.out.step hbw23)
          have Vww23 := Lib.hid (Vww22.out.step hbw23)
          have Isw23 : Hid _ := Lib.hid (Isw22.out.step hbw23)
          have Itw23 : Hid _ := Lib.hid (Itw22.out.step hbw23)
          clear Va0w22
          clear Va1w22
          clear Va2w22
          clear Vww22
          clear Isw22
          clear Itw22
          obtain ⟨la0w23, ca0w23_0, ca0w23_1, ca0w23_2, fa0w23_0, fa0w23_1, fa0w23_2⟩ := Va0w23.out.open3
          obtain ⟨la1w23, ca1w23_0, ca1w23_1, ca1w23_2, fa1w23_0, fa1w23_1, fa1w23_2⟩ := Va1w23.out.open3
          obtain ⟨la2w23, ca2w23_0, fa2w23_0⟩ := Va2w23.out.open1
          obtain ⟨lww23, cww23_0, cww23_1, cww23_2, fww23_0, fww23_1, fww23_2⟩ := Vww23.out.open3
          have Irw23 := Pw23
          clear Pw23
          have bjw23 := Lib.hid (later bjw22.out hbw23)
          have B9 := hbw23
          refine hK.out _ _ ?_ (fun hHeld => ?_)
          · (first | exact ⟨VB.step (hHeld.1) B9, VB.step (hHeld.2.1) B9, VB.step (hHeld.2.2) B9⟩ | exact ⟨VB.drew Va0w13.out, VB.drew Va1w13.out, VB.drew Va2w13.out⟩)
          clear hK K
          try simp only [Act.put, List.setIfInBounds_toArray, List.set_cons_zero, List.set_cons_succ]
          refine readyL (rs := [6]) (by kernel_rfl) (by simp) ?_
          refine AllReadyL.cons (o := ?_) ?_ (fun K hK => ?_) AllReadyL.none_
          rotate_left
          · (simp only [List.getElem?_toArray, List.getElem?_cons_succ, List.getElem?_cons_zero]; rfl)
          go_simp
          go_at_call 16
          ((with_reducible refine (specCopyRegion ix0 iy0 ix1 iy1 _ _ _ _ _ _ _ _ _ _ _ _ _ zs0 zs1 zs2 _ Isw23.out Itw23.out (Recs.arg Irw23.out) rfl hN0 (by omega)).mono ?_))
          rintro e w24 ⟨Aw24, kw24, rfl, Ow24, hbw24⟩
          have Pw24 := Lib.hid Ow24
          clear Ow24
          clear la0w23 ca0w23_0 ca0w23_1 ca0w23_2 fa0w23_0 fa0w23_1 fa0w23_2 la1w23 ca1w23_0 ca1w23_1 ca1w23_2 fa1w23_0 fa1w23_1 fa1w23_2 la2w23 ca2w23_0 fa2w23_0 lww23 cww23_0 cww23_1 cww23_2 fww23_0 fww23_1 fww23_2
          have bbw24 := Lib.hid (later bbw23.out hbw24)
          have hzw24 := hbw24.size
          have Va0w24 := Lib.hid (Va0w23.out.step hbw24)
          have Va1w24 := Lib.hid (Va1w23.out.step hbw24)
          have Va2w24 := Lib.hid (Va2w23.out.step hbw24)
          have Vww24 := Lib.hid (Vww23.out.step hbw24)
          have Isw24 : Hid _ := Lib.hid (Isw23.out.step hbw24)
          have Itw24 : Hid _ := Lib.hid (Itw23.out.step hbw24)
          have Irw24 : Hid _ := Lib.hid (Irw23.out.step hbw24)
          clear Va0w23
          clear Va1w23
          clear Va2w23
          clear Vww23
          clear Isw23
          clear Itw23
          clear Irw23
          obtain ⟨la0w24, ca0w24_0, ca0w24_1, ca0w24_2, fa0w24_0, fa0w24_1, fa0w24_2⟩ := Va0w24.out.open3
          obtain ⟨la1w24, ca1w24_0, ca1w24_1, ca1w24_2, fa1w24_0, fa1w24_1, fa1w24_2⟩ := Va1w24.out.open3
          obtain ⟨la2w24, ca2w24_0, fa2w24_0⟩ := Va2w24.out.open1
          obtain ⟨lww24, cww24_0, cww24_1, cww24_2, fww24_0, fww24_1, fww24_2⟩ := Vww24.out.open3
          have Iw'w24 := Pw24
          clear Pw24
          have bjw24 := Lib.hid (later bjw23.out hbw24)
          have B9 := hbw24
          refine hK.out _ _ ?_ (fun hHeld => ?_)
          · (first | exact ⟨VB.step (hHeld.1) B9, VB.step (hHeld.2.1) B9, VB.step (hHeld.2.2) B9⟩ | exact ⟨VB.drew Va0w13.out, VB.drew Va1w13.out, VB.drew Va2w13.out⟩)
          clear hK K
          try simp only [Act.put, List.setIfInBounds_toArray, List.set_cons_zero, List.set_cons_succ]
          refine readyL (rs := [8]) (by kernel_rfl) (by simp) ?_
          refine AllReadyL.last (o := ?_) ?_ (fun K hK => ?_)
          rotate_left
          · (simp only [List.getElem?_toArray, List.getElem?_cons_succ, List.getElem?_cons_zero]; rfl)
          go_simp
          refine hK.out _ _ ?_
          clear hK K
          try simp only [Act.put, List.setIfInBounds_toArray, List.set_cons_zero, List.set_cons_succ]
          refine doneL (by kernel_rfl) ?_ _
          go_wp2_with fail
          go_meet
          have e1 : w13.heap.size ≤ w23.heap.size := bjw23.out.size
          have e2 : w24.heap.size ≤ w24.heap.size := Iw'w24.out.hi_le
          case rel => exact ⟨w16.heap.size, rfl, Aw24, kw24, w23.heap.size, w24.heap.size, by omega, e1, Nat.le_trans e2 (Nat.le_of_eq (by simp [World.setCell])), by omega, ((Vww24.out.set 0 _).set 1 _).set 2 _, Ints.setc3 Iw'w24.out (b := w16.heap.size) (by omega) _ _ _, ((bjw24.out.setCell (by show w13.heap.size ≤ w16.heap.size; omega) _).setCell (by show w13.heap.size ≤ w16.heap.size; omega) _).setCell (by show w13.heap.size ≤ w16.heap.size; omega) _⟩
        exact AllReadyL.none_
      refine AllReadyL.cons (o := ?_) ?_ (fun K hK => ?_) ?_
      rotate_left
      · (simp only [List.getElem?_toArray, List.getElem?_cons_succ, List.getElem?_cons_zero]; rfl)
      · go_simp
        have hbw25 : Below (w15).heap.size (w15) (w15.alloc (.cells #[.int .i64 0, .int .i64 0, .slice none 0 0] 30 (0, 0))) := by first | exact (Below.refl _ _).alloc (Nat.le_refl _) _ | exact (show Below (w13.drew).heap.size w13.drew (w13.drew.alloc (.cells #[.int .i64 0, .int .i64 0, .slice none 0 0] 30 (0, 0))) from (Below.refl _ _).alloc (Nat.le_refl _) _)
        have haw25 : w13.heap.size ≤ w15.heap.size := bjw15.out.size
        have hyw25 : (w15).heap.size < (w15.alloc (.cells #[.int .i64 0, .int .i64 0, .slice none 0 0] 30 (0, 0))).heap.size := by simp
        have Zw25 : Hid (VB (w15.alloc (.cells #[.int .i64 0, .int .i64 0, .slice none 0 0] 30 (0, 0))) (w15.heap.size) [.int .i64 0, .int .i64 0, .slice none 0 0]) := Lib.hid (by first | exact VB.new (cs := [.int .i64 0, .int .i64 0, .slice none 0 0]) rfl | exact VB.drew (VB.new (cs := [.int .i64 0, .int .i64 0, .slice none 0 0]) rfl))
        generalize (w15.alloc (.cells #[.int .i64 0, .int .i64 0, .slice none 0 0] 30 (0, 0))) = w25 at *
        clear la0w15 ca0w15_0 ca0w15_1 ca0w15_2 fa0w15_0 fa0w15_1 fa0w15_2 la1w15 ca1w15_0 ca1w15_1 ca1w15_2 fa1w15_0 fa1w15_1 fa1w15_2 la2w15 ca2w15_0 fa2w15_0
        have bbw25 := Lib.hid (later bbw15.out hbw25)
        have hzw25 := hbw25.size
        have Va0w25 := Lib.hid (Va0w15.out.step hbw25)
        have Va1w25 := Lib.hid (Va1w15.out.step hbw25)
        have Va2w25 := Lib.hid (Va2w15.out.step hbw25)
        have Isw25 : Hid _ := Lib.hid (Isw15.out.step hbw25)
        clear Va0w15
        clear Va1w15
        clear Va2w15
        clear Isw15
        obtain ⟨la0w25, ca0w25_0, ca0w25_1, ca0w25_2, fa0w25_0, fa0w25_1, fa0w25_2⟩ := Va0w25.out.open3
        obtain ⟨la1w25, ca1w25_0, ca1w25_1, ca1w25_2, fa1w25_0, fa1w25_1, fa1w25_2⟩ := Va1w25.out.open3
        obtain ⟨la2w25, ca2w25_0, fa2w25_0⟩ := Va2w25.out.open1
        have bjw25 := Lib.hid (later bjw15.out hbw25)
        clear la0w25 ca0w25_0 ca0w25_1 ca0w25_2 fa0w25_0 fa0w25_1 fa0w25_2 la1w25 ca1w25_0 ca1w25_1 ca1w25_2 fa1w25_0 fa1w25_1 fa1w25_2 la2w25 ca2w25_0 fa2w25_0
        have Vww25 := Zw25
        obtain ⟨la0w25, ca0w25_0, ca0w25_1, ca0w25_2, fa0w25_0, fa0w25_1, fa0w25_2⟩ := Va0w25.out.open3
        obtain ⟨la1w25, ca1w25_0, ca1w25_1, ca1w25_2, fa1w25_0, fa1w25_1, fa1w25_2⟩ := Va1w25.out.open3
        obtain ⟨la2w25, ca2w25_0, fa2w25_0⟩ := Va2w25.out.open1
        obtain ⟨lww25, cww25_0, cww25_1, cww25_2, fww25_0, fww25_1, fww25_2⟩ := Vww25.out.open3
        have B9 := hbw25
        refine hK.out _ _ ?_ (fun hHeld => ?_)
        · (first | exact ⟨VB.step (hHeld.1) B9, VB.step (hHeld.2.1) B9, VB.step (hHeld.2.2) B9⟩ | exact ⟨VB.drew Va0w13.out, VB.drew Va1w13.out, VB.drew Va2w13.out⟩)
        clear hK K
        try simp only [Act.put, List.setIfInBounds_toArray, List.set_cons_zero, List.set_cons_succ]
        refine readyL (rs := [3]) (by kernel_rfl) (by simp) ?_
        refine AllReadyL.cons (o := ?_) ?_ (fun K hK => ?_) AllReadyL.none_
        rotate_left
        · (simp only [List.getElem?_toArray, List.getElem?_cons_succ, List.getElem?_cons_zero]; rfl)
        go_simp
        go_at_call 8
        ((with_reducible refine (toImage_any _ _ _ _ _ zs1 _ (arg1.out.below bbw25.out) L1.out hsm1).mono ?_))
        rintro e w26 ⟨Aw26, kw26, rfl, Ow26, hbw26⟩
        have Pw26 := Lib.hid Ow26
        clear Ow26
        clear la0w25 ca0w25_0 ca0w25_1 ca0w25_2 fa0w25_0 fa0w25_1 fa0w25_2 la1w25 ca1w25_0 ca1w25_1 ca1w25_2 fa1w25_0 fa1w25_1 fa1w25_2 la2w25 ca2w25_0 fa2w25_0 lww25 cww25_0 cww25_1 cww25_2 fww25_0 fww25_1 fww25_2
        have bbw26 := Lib.hid (later bbw25.out hbw26)
        have hzw26 := hbw26.size
        have Va0w26 := Lib.hid (Va0w25.out.step hbw26)
        have Va1w26 := Lib.hid (Va1w25.out.step hbw26)
        have Va2w26 := Lib.hid (Va2w25.out.step hbw26)
        have Vww26 := Lib.hid (Vww25.out.step hbw26)
        have Isw26 : Hid _ := Lib.hid (Isw25.out.step hbw26)
        clear Va0w25
        clear Va1w25
        clear Va2w25
        clear Vww25
        clear Isw25
        obtain ⟨la0w26, ca0w26_0, ca0w26_1, ca0w26_2, fa0w26_0, fa0w26_1, fa0w26_2⟩ := Va0w26.out.open3
        obtain ⟨la1w26, ca1w26_0, ca1w26_1, ca1w26_2, fa1w26_0, fa1w26_1, fa1w26_2⟩ := Va1w26.out.open3
        obtain ⟨la2w26, ca2w26_0, fa2w26_0⟩ := Va2w26.out.open1
        obtain ⟨lww26, cww26_0, cww26_1, cww26_2, fww26_0, fww26_1, fww26_2⟩ := Vww26.out.open3
        have Itw26 := Pw26
        clear Pw26
        have bjw26 := Lib.hid (later bjw25.out hbw26)
        have B9 := hbw26
        refine hK.out _ _ ?_ (fun hHeld => ?_)
        · (first | exact ⟨VB.step (hHeld.1) B9, VB.step (hHeld.2.1) B9, VB.step (hHeld.2.2) B9⟩ | exact ⟨VB.drew Va0w13.out, VB.drew Va1w13.out, VB.drew Va2w13.out⟩)
        clear hK K
        try simp only [Act.put, List.setIfInBounds_toArray, List.set_cons_zero, List.set_cons_succ]
        refine readyL (rs := [5]) (by kernel_rfl) (by simp) ?_
        refine AllReadyL.cons (o := ?_) ?_ (fun K hK => ?_) AllReadyL.none_
        rotate_left
        · (simp only [List.getElem?_toArray, List.getElem?_cons_succ, List.getElem?_cons_zero]; rfl)
        go_simp
        go_at_call 17
        ((with_reducible refine (toRegion_any _ _ _ zs2 _ (arg2.out.below bbw26.out) L2.out hsm2).mono ?_))
        rintro e w27 ⟨Aw27, kw27, rfl, Ow27, hbw27⟩
        have Pw27 := Lib.hid Ow27
        clear Ow27
        clear la0w26 ca0w26_0 ca0w26_1 ca0w26_2 fa0w26_0 fa0w26_1 fa0w26_2 la1w26 ca1w26_0 ca1w26_1 ca1w26_2 fa1w26_0 fa1w26_1 fa1w26_2 la2w26 ca2w26_0 fa2w26_0 lww26 cww26_0 cww26_1 cww26_2 fww26_0 fww26_1 fww26_2
        have bbw27 := Lib.hid (later bbw26.out hbw27)
        have hzw27 := hbw27.size
        have Va0w27 := Lib.hid (Va0w26.out.step hbw27)
        have Va1w27 := Lib.hid (Va1w26.out.step hbw27)
        have Va2w27 := Lib.hid (Va2w26.out.step hbw27)
        have Vww27 := Lib.hid (Vww26.out.step hbw27)
        have Isw27 : Hid _ := Lib.hid (Isw26.out.step hbw27)
        have Itw27 : Hid _ := Lib.hid (Itw26.out.step hbw27)
        clear Va0w26
        clear Va1w26
        clear Va2w26
        clear Vww26
        clear Isw26
        clear Itw26
        obtain ⟨la0w27, ca0w27_0, ca0w27_1, ca0w27_2, fa0w27_0, fa0w27_1, fa0w27_2⟩ := Va0w27.out.open3
        obtain ⟨la1w27, ca1w27_0, ca1w27_1, ca1w27_2, fa1w27_0, fa1w27_1, fa1w27_2⟩ := Va1w27.out.open3
        obtain ⟨la2w27, ca2w27_0, fa2w27_0⟩ := Va2w27.out.open1
        obtain ⟨lww27, cww27_0, cww27_1, cww27_2, fww27_0, fww27_1, fww27_2⟩ := Vww27.out.open3
        have Irw27 := Pw27
        clear Pw27
        have bjw27 := Lib.hid (later bjw26.out hbw27)
        have B9 := hbw27
        refine hK.out _ _ ?_ (fun hHeld => ?_)
        · (first | exact ⟨VB.step (hHeld.1) B9, VB.step (hHeld.2.1) B9, VB.step (hHeld.2.2) B9⟩ | exact ⟨VB.drew Va0w13.out, VB.drew Va1w13.out, VB.drew Va2w13.out⟩)
        clear hK K
        try simp only [Act.put, List.setIfInBounds_toArray, List.set_cons_zero, List.set_cons_succ]
        refine readyL (rs := [6]) (by kernel_rfl) (by simp) ?_
        refine AllReadyL.cons (o := ?_) ?_ (fun K hK => ?_) AllReadyL.none_
        rotate_left
        · (simp only [List.getElem?_toArray, List.getElem?_cons_succ, List.getElem?_cons_zero]; rfl)
        go_simp
        go_at_call 16
        ((with_reducible refine (specCopyRegion ix0 iy0 ix1 iy1 _ _ _ _ _ _ _ _ _ _ _ _ _ zs0 zs1 zs2 _ Isw27.out Itw27.out (Recs.arg Irw27.out) rfl hN0 (by omega)).mono ?_))
        rintro e w28 ⟨Aw28, kw28, rfl, Ow28, hbw28⟩
        have Pw28 := Lib.hid Ow28
        clear Ow28
        clear la0w27 ca0w27_0 ca0w27_1 ca0w27_2 fa0w27_0 fa0w27_1 fa0w27_2 la1w27 ca1w27_0 ca1w27_1 ca1w27_2 fa1w27_0 fa1w27_1 fa1w27_2 la2w27 ca2w27_0 fa2w27_0 lww27 cww27_0 cww27_1 cww27_2 fww27_0 fww27_1 fww27_2
        have bbw28 := Lib.hid (later bbw27.out hbw28)
        have hzw28 := hbw28.size
        have Va0w28 := Lib.hid (Va0w27.out.step hbw28)
        have Va1w28 := Lib.hid (Va1w27.out.step hbw28)
        have Va2w28 := Lib.hid (Va2w27.out.step hbw28)
        have Vww28 := Lib.hid (Vww27.out.step hbw28)
        have Isw28 : Hid _ := Lib.hid (Isw27.out.step hbw28)
        have Itw28 : Hid _ := Lib.hid (Itw27.out.step hbw28)
        have Irw28 : Hid _ := Lib.hid (Irw27.out.step hbw28)
        clear Va0w27
        clear Va1w27
        clear Va2w27
        clear Vww27
        clear Isw27
        clear Itw27
        clear Irw27
        obtain ⟨la0w28, ca0w28_0, ca0w28_1, ca0w28_2, fa0w28_0, fa0w28_1, fa0w28_2⟩ := Va0w28.out.open3
        obtain ⟨la1w28, ca1w28_0, ca1w28_1, ca1w28_2, fa1w28_0, fa1w28_1, fa1w28_2⟩ := Va1w28.out.open3
        obtain ⟨la2w28, ca2w28_0, fa2w28_0⟩ := Va2w28.out.open1
        obtain ⟨lww28, cww28_0, cww28_1, cww28_2, fww28_0, fww28_1, fww28_2⟩ := Vww28.out.open3
        have Iw'w28 := Pw28
        clear Pw28
        have bjw28 := Lib.hid (later bjw27.out hbw28)
        have B9 := hbw28
        refine hK.out _ _ ?_ (fun hHeld => ?_)
        · (first | exact ⟨VB.step (hHeld.1) B9, VB.step (hHeld.2.1) B9, VB.step (hHeld.2.2) B9⟩ | exact ⟨VB.drew Va0w13.out, VB.drew Va1w13.out, VB.drew Va2w13.out⟩)
        clear hK K
        try simp only [Act.put, List.setIfInBounds_toArray, List.set_cons_zero, List.set_cons_succ]
        refine readyL (rs := [8]) (by kernel_rfl) (by simp) ?_
        refine AllReadyL.last (o := ?_) ?_ (fun K hK => ?_)
        rotate_left
        · (simp only [List.getElem?_toArray, List.getElem?_cons_succ, List.getElem?_cons_zero]; rfl)
        go_simp
        refine hK.out _ _ ?_
        clear hK K
        try simp only [Act.put, List.setIfInBounds_toArray, List.set_cons_zero, List.set_cons_succ]
        refine doneL (by kernel_rfl) ?_ _
        go_wp2_with fail
        go_meet
        have e1 : w13.heap.size ≤ w27.heap.size := bjw27.out.size
        have e2 : w28.heap.size ≤ w28.heap.size := Iw'w28.out.hi_le
        case rel => exact ⟨w15.heap.size, rfl, Aw28, kw28, w27.heap.size, w28.heap.size, by omega, e1, Nat.le_trans e2 (Nat.le_of_eq (by simp [World.setCell])), by omega, ((Vww28.out.set 0 _).set 1 _).set 2 _, Ints.setc3 Iw'w28.out (b := w15.heap.size) (by omega) _ _ _, ((bjw28.out.setCell (by show w13.heap.size ≤ w15.heap.size; omega) _).setCell (by show w13.heap.size ≤ w15.heap.size; omega) _).setCell (by show w13.heap.size ≤ w15.heap.size; omega) _⟩
      exact AllReadyL.none_
    refine AllReadyL.cons (o := ?_) ?_ (fun K hK => ?_) ?_
    rotate_left
    · (simp only [List.getElem?_toArray, List.getElem?_cons_succ, List.getElem?_cons_zero]; rfl)
    · go_simp
      have hbw29 : Below (w13.drew).heap.size (w13.drew) (w13.alloc (.cells #[.int .i64 0, .int .i64 0, .slice none 0 0] 30 (0, 0))).drew := by first | exact (Below.refl _ _).alloc (Nat.le_refl _) _ | exact (show Below (w13.drew).heap.size w13.drew (w13.drew.alloc (.cells #[.int .i64 0, .int .i64 0, .slice none 0 0] 30 (0, 0))) from (Below.refl _ _).alloc (Nat.le_refl _) _)
      have haw29 : w13.heap.size ≤ w13.heap.size := Nat.le_refl _
      have hyw29 : (w13.drew).heap.size < (w13.alloc (.cells #[.int .i64 0, .int .i64 0, .slice none 0 0] 30 (0, 0))).drew.heap.size := by simp
      have Zw29 : Hid (VB (w13.alloc (.cells #[.int .i64 0, .int .i64 0, .slice none 0 0] 30 (0, 0))).drew (w13.heap.size) [.int .i64 0, .int .i64 0, .slice none 0 0]) := Lib.hid (by first | exact VB.new (cs := [.int .i64 0, .int .i64 0, .slice none 0 0]) rfl | exact VB.drew (VB.new (cs := [.int .i64 0, .int .i64 0, .slice none 0 0]) rfl))
      generalize (w13.alloc (.cells #[.int .i64 0, .int .i64 0, .slice none 0 0] 30 (0, 0))).drew = w29 at *
      have bbw29 := Lib.hid (later bbw14.out hbw29)
      have hzw29 := hbw29.size
      have Va0w29 := Lib.hid (Va0w14.out.step hbw29)
      have Va1w29 := Lib.hid (Va1w14.out.step hbw29)
      have Va2w29 := Lib.hid (Va2w14.out.step hbw29)
      clear Va0w14
      clear Va1w14
      clear Va2w14
      obtain ⟨la0w29, ca0w29_0, ca0w29_1, ca0w29_2, fa0w29_0, fa0w29_1, fa0w29_2⟩ := Va0w29.out.open3
      obtain ⟨la1w29, ca1w29_0, ca1w29_1, ca1w29_2, fa1w29_0, fa1w29_1, fa1w29_2⟩ := Va1w29.out.open3
      obtain ⟨la2w29, ca2w29_0, fa2w29_0⟩ := Va2w29.out.open1
      have bjw29 := Lib.hid (later bjw14.out hbw29)
      clear la0w29 ca0w29_0 ca0w29_1 ca0w29_2 fa0w29_0 fa0w29_1 fa0w29_2 la1w29 ca1w29_0 ca1w29_1 ca1w29_2 fa1w29_0 fa1w29_1 fa1w29_2 la2w29 ca2w29_0 fa2w29_0
      have Vww29 := Zw29
      obtain ⟨la0w29, ca0w29_0, ca0w29_1, ca0w29_2, fa0w29_0, fa0w29_1, fa0w29_2⟩ := Va0w29.out.open3
      obtain ⟨la1w29, ca1w29_0, ca1w29_1, ca1w29_2, fa1w29_0, fa1w29_1, fa1w29_2⟩ := Va1w29.out.open3
      obtain ⟨la2w29, ca2w29_0, fa2w29_0⟩ := Va2w29.out.open1
      obtain ⟨lww29, cww29_0, cww29_1, cww29_2, fww29_0, fww29_1, fww29_2⟩ := Vww29.out.open3
      have B9 := hbw29
      refine hK.out _ _ ?_ (fun hHeld => ?_)
      · (first | exact ⟨VB.step (hHeld.1) B9, VB.step (hHeld.2.1) B9, VB.step (hHeld.2.2) B9⟩ | exact ⟨VB.drew Va0w13.out, VB.drew Va1w13.out, VB.drew Va2w13.out⟩)
      clear hK K
      try simp only [Act.put, List.setIfInBounds_toArray, List.set_cons_zero, List.set_cons_succ]
      refine readyL (rs := [1]) (by kernel_rfl) (by simp) ?_
      refine AllReadyL.cons (o := ?_) ?_ (fun K hK => ?_) AllReadyL.none_
      rotate_left
      · (simp only [List.getElem?_toArray, List.getElem?_cons_succ, List.getElem?_cons_zero]; rfl)
      go_simp
      go_at_call 8
      ((with_reducible refine (toImage_any _ _ _ _ _ zs0 _ (arg0.out.below bbw29.out) L0.out hsm0).mono ?_))
      rintro e w30 ⟨Aw30, kw30, rfl, Ow30, hbw30⟩
      have Pw30 := Lib.hid Ow30
      clear Ow30
      clear la0w29 ca0w29_0 ca0w29_1 ca0w29_2 fa0w29_0 fa0w29_1 fa0w29_2 la1w29 ca1w29_0 ca1w29_1 ca1w29_2 fa1w29_0 fa1w29_1 fa1w29_2 la2w29 ca2w29_0 fa2w29_0 lww29 cww29_0 cww29_1 cww29_2 fww29_0 fww29_1 fww29_2
      have bbw30 := Lib.hid (later bbw29.out hbw30)
      have hzw30 := hbw30.size
      have Va0w30 := Lib.hid (Va0w29.out.step hbw30)
      have Va1w30 := Lib.hid (Va1w29.out.step hbw30)
      have Va2w30 := Lib.hid (Va2w29.out.step hbw30)
      have Vww30 := Lib.hid (Vww29.out.step hbw30)
      clear Va0w29
      clear Va1w29
      clear Va2w29
      clear Vww29
      obtain ⟨la0w30, ca0w30_0, ca0w30_1, ca0w30_2, fa0w30_0, fa0w30_1, fa0w30_2⟩ := Va0w30.out.open3
      obtain ⟨la1w30, ca1w30_0, ca1w30_1, ca1w30_2, fa1w30_0, fa1w30_1, fa1w30_2⟩ := Va1w30.out.open3
      obtain ⟨la2w30, ca2w30_0, fa2w30_0⟩ := Va2w30.out.open1
      obtain ⟨lww30, cww30_0, cww30_1, cww30_2, fww30_0, fww30_1, fww30_2⟩ := Vww30.out.open3
      have Isw30 := Pw30
      clear Pw30
      have bjw30 := Lib.hid (later bjw29.out hbw30)
      have B9 := hbw30
      refine hK.out _ _ ?_ (fun hHeld => ?_)
      · (first | exact ⟨VB.step (hHeld.1) B9, VB.step (hHeld.2.1) B9, VB.step (hHeld.2.2) B9⟩ | exact ⟨VB.drew Va0w13.out, VB.drew Va1w13.out, VB.drew Va2w13.out⟩)
      clear hK K
      try simp only [Act.put, List.setIfInBounds_toArray, List.set_cons_zero, List.set_cons_succ]
      refine readyL (rs := [3]) (by kernel_rfl) (by simp) ?_
      refine AllReadyL.cons (o := ?_) ?_ (fun K hK => ?_) AllReadyL.none_
      rotate_left
      · (simp only [List.getElem?_toArray, List.getElem?_cons_succ, List.getElem?_cons_zero]; rfl)
      go_simp
      go_at_call 8
      ((with_reducible refine (toImage_any _ _ _ _ _ zs1 _ (arg1.out.below bbw30.out) L1.out hsm1).mono ?_))
      rintro e w31 ⟨Aw31, kw31, rfl, Ow31, hbw31⟩
      have Pw31 := Lib.hid Ow31
      clear Ow31
      clear la0w30 ca0w30_0 ca0w30_1 ca0w30_2 fa0w30_0 fa0w30_1 fa0w30_2 la1w30 ca1w30_0 ca1w30_1 ca1w30_2 fa1w30_0 fa1w30_1 fa1w30_2 la2w30 ca2w30_0 fa2w30_0 lww30 cww30_0 cww30_1 cww30_2 fww30_0 fww30_1 fww30_2
      have bbw31 := Lib.hid (later bbw30.out hbw31)
      have hzw31 := hbw31.size
      have Va0w31 := Lib.hid (Va0w30.out.step hbw31)
      have Va1w31 := Lib.hid (Va1w30.out.step hbw31)
      have Va2w31 := Lib.hid (Va2w30.out.step hbw31)
      have Vww31 := Lib.hid (Vww30.out.step hbw31)
      have Isw31 : Hid _ := Lib.hid (Isw30.out.step hbw31)
      clear Va0w30
      clear Va1w30
      clear Va2w30
      clear Vww30
      clear Isw30
      obtain ⟨la0w31, ca0w31_0, ca0w31_1, ca0w31_2, fa0w31_0, fa0w31_1, fa0w31_2⟩ := Va0w31.out.open3
      obtain ⟨la1w31, ca1w31_0, ca1w31_1, ca1w31_2, fa1w31_0, fa1w31_1, fa1w31_2⟩ := Va1w31.out.open3
      obtain ⟨la2w31, ca2w31_0, fa2w31_0⟩ := Va2w31.out.open1
      obtain ⟨lww31, cww31_0, cww31_1, cww31_2, fww31_0, fww31_1, fww31_2⟩ := Vww31.out.open3
      have Itw31 := Pw31
      clear Pw31
      have bjw31 := Lib.hid (later bjw30.out hbw31)
      have B9 := hbw31
      refine hK.out _ _ ?_ (fun hHeld => ?_)
      · (first | exact ⟨VB.step (hHeld.1) B9, VB.step (hHeld.2.1) B9, VB.step (hHeld.2.2) B9⟩ | exact ⟨VB.drew Va0w13.out, VB.drew Va1w13.out, VB.drew Va2w13.out⟩)
      clear hK K
      try simp only [Act.put, List.setIfInBounds_toArray, List.set_cons_zero, List.set_cons_succ]
      refine readyL (rs := [5]) (by kernel_rfl) (by simp) ?_
      refine AllReadyL.cons (o := ?_) ?_ (fun K hK => ?_) AllReadyL.none_
      rotate_left
      · (simp only [List.getElem?_toArray, List.getElem?_cons_succ, List.getElem?_cons_zero]; rfl)
      go_simp
      go_at_call 17
      ((with_reducible refine (toRegion_any _ _ _ zs2 _ (arg2.out.below bbw31.out) L2.out hsm2).mono ?_))
      rintro e w32 ⟨Aw32, kw32, rfl, Ow32, hbw32⟩
      have Pw32 := Lib.hid Ow32
      clear Ow32
      clear la0w31 ca0w31_0 ca0w31_1 ca0w31_2 fa0w31_0 fa0w31_1 fa0w31_2 la1w31 ca1w31_0 ca1w31_1 ca1w31_2 fa1w31_0 fa1w31_1 fa1w31_2 la2w31 ca2w31_0 fa2w31_0 lww31 cww31_0 cww31_1 cww31_2 fww31_0 fww31_1 fww31_2
      have bbw32 := Lib.hid (later bbw31.out hbw32)
      have hzw32 := hbw32.size
      have Va0w32 := Lib.hid (Va0w31.out.step hbw32)
      have Va1w32 := Lib.hid (Va1w31.out.step hbw32)
      have Va2w32 := Lib.hid (Va2w31.out.step hbw32)
      have Vww32 := Lib.hid (Vww31.out.step hbw32)
      have Isw32 : Hid _ := Lib.hid (Isw31.out.step hbw32)
      have Itw32 : Hid _ := Lib.hid (Itw31.out.step hbw32)
      clear Va0w31
      clear Va1w31
      clear Va2w31
      clear Vww31
      clear Isw31
      clear Itw31
      obtain ⟨la0w32, ca0w32_0, ca0w32_1, ca0w32_2, fa0w32_0, fa0w32_1, fa0w32_2⟩ := Va0w32.out.open3
      obtain ⟨la1w32, ca1w32_0, ca1w32_1, ca1w32_2, fa1w32_0, fa1w32_1, fa1w32_2⟩ := Va1w32.out.open3
      obtain ⟨la2w32, ca2w32_0, fa2w32_0⟩ := Va2w32.out.open1
      obtain ⟨lww32, cww32_0, cww32_1, cww32_2, fww32_0, fww32_1, fww32_2⟩ := Vww32.out.open3
      have Irw32 := Pw32
      clear Pw32
      have bjw32 := Lib.hid (later bjw31.out hbw32)
      have B9 := hbw32
      refine hK.out _ _ ?_ (fun hHeld => ?_)
      · (first | exact ⟨VB.step (hHeld.1) B9, VB.step (hHeld.2.1) B9, VB.step (hHeld.2.2) B9⟩ | exact ⟨VB.drew Va0w13.out, VB.drew Va1w13.out, VB.drew Va2w13.out⟩)
      clear hK K
      try simp only [Act.put, List.setIfInBounds_toArray, List.set_cons_zero, List.set_cons_succ]
      refine readyL (rs := [6]) (by kernel_rfl) (by simp) ?_
      refine AllReadyL.cons (o := ?_) ?_ (fun K hK => ?_) AllReadyL.none_
      rotate_left
      · (simp only [List.getElem?_toArray, List.getElem?_cons_succ, List.getElem?_cons_zero]; rfl)
      go_simp
      go_at_call 16
      ((with_reducible refine (specCopyRegion ix0 iy0 ix1 iy1 _ _ _ _ _ _ _ _ _ _ _ _ _ zs0 zs1 zs2 _ Isw32.out Itw32.out (Recs.arg Irw32.out) rfl hN0 (by omega)).mono ?_))
      rintro e w33 ⟨Aw33, kw33, rfl, Ow33, hbw33⟩
      have Pw33 := Lib.hid Ow33
      clear Ow33
      clear la0w32 ca0w32_0 ca0w32_1 ca0w32_2 fa0w32_0 fa0w32_1 fa0w32_2 la1w32 ca1w32_0 ca1w32_1 ca1w32_2 fa1w32_0 fa1w32_1 fa1w32_2 la2w32 ca2w32_0 fa2w32_0 lww32 cww32_0 cww32_1 cww32_2 fww32_0 fww32_1 fww32_2
      have bbw33 := Lib.hid (later bbw32.out hbw33)
      have hzw33 := hbw33.size
      have Va0w33 := Lib.hid (Va0w32.out.step hbw33)
      have Va1w33 := Lib.hid (Va1w32.out.step hbw33)
      have Va2w33 := Lib.hid (Va2w32.out.step hbw33)
      have Vww33 := Lib.hid (Vww32.out.step hbw33)
      have Isw33 : Hid _ := Lib.hid (Isw32.out.step hbw33)
      have Itw33 : Hid _ := Lib.hid (Itw32.out.step hbw33)
      have Irw33 : Hid _ := Lib.hid (Irw32.out.step hbw33)
      clear Va0w32
      clear Va1w32
      clear Va2w32
      clear Vww32
      clear Isw32
      clear Itw32
      clear Irw32
      obtain ⟨la0w33, ca0w33_0, ca0w33_1, ca0w33_2, fa0w33_0, fa0w33_1, fa0w33_2⟩ := Va0w33.out.open3
      obtain ⟨la1w33, ca1w33_0, ca1w33_1, ca1w33_2, fa1w33_0, fa1w33_1, fa1w33_2⟩ := Va1w33.out.open3
      obtain ⟨la2w33, ca2w33_0, fa2w33_0⟩ := Va2w33.out.open1
      obtain ⟨lww33, cww33_0, cww33_1, cww33_2, fww33_0, fww33_1, fww33_2⟩ := Vww33.out.open3
      have Iw'w33 := Pw33
      clear Pw33
      have bjw33 := Lib.hid (later bjw32.out hbw33)
      have B9 := hbw33
      refine hK.out _ _ ?_ (fun hHeld => ?_)
      · (first | exact ⟨VB.step (hHeld.1) B9, VB.step (hHeld.2.1) B9, VB.step (hHeld.2.2) B9⟩ | exact ⟨VB.drew Va0w13.out, VB.drew Va1w13.out, VB.drew Va2w13.out⟩)
      clear hK K
      try simp only [Act.put, List.setIfInBounds_toArray, List.set_cons_zero, List.set_cons_succ]
      refine readyL (rs := [8]) (by kernel_rfl) (by simp) ?_
      refine AllReadyL.last (o := ?_) ?_ (fun K hK => ?_)
      rotate_left
      · (simp only [List.getElem?_toArray, List.getElem?_cons_succ, List.getElem?_cons_zero]; rfl)
      go_simp
      refine hK.out _ _ ?_
      clear hK K
      try simp only [Act.put, List.setIfInBounds_toArray, List.set_cons_zero, List.set_cons_succ]
      refine doneL (by kernel_rfl) ?_ _
      go_wp2_with fail
      go_meet
      have e1 : w13.heap.size ≤ w32.heap.size := bjw32.out.size
      have e2 : w33.heap.size ≤ w33.heap.size := Iw'w33.out.hi_le
      case rel => exact ⟨w13.heap.size, rfl, Aw33, kw33, w32.heap.size, w33.heap.size, by omega, e1, Nat.le_trans e2 (Nat.le_of_eq (by simp [World.setCell])), by omega, ((Vww33.out.set 0 _).set 1 _).set 2 _, Ints.setc3 Iw'w33.out (b := w13.heap.size) (by omega) _ _ _, ((bjw33.out.setCell (by show w13.heap.size ≤ w13.heap.size; omega) _).setCell (by show w13.heap.size ≤ w13.heap.size; omega) _).setCell (by show w13.heap.size ≤ w13.heap.size; omega) _⟩
    exact AllReadyL.none_
  case rest =>
    obtain ⟨bkw34, rfl, Aw34, kw34, low34, hiw34, p1w34, p2w34, p3w34, p4w34, VVw34, IIw34, hbw34⟩ := hcut
    obtain ⟨w34, rfl⟩ : ∃ w34 : World, w34 = wc := ⟨_, rfl⟩
    clear la0w13 ca0w13_0 ca0w13_1 ca0w13_2 fa0w13_0 fa0w13_1 fa0w13_2 la1w13 ca1w13_0 ca1w13_1 ca1w13_2 fa1w13_0 fa1w13_1 fa1w13_2 la2w13 ca2w13_0 fa2w13_0
    have bbw34 := Lib.hid (later bbw13.out hbw34)
    have hzw34 := hbw34.size
    have Va0w34 := Lib.hid (Va0w13.out.step hbw34)
    have Va1w34 := Lib.hid (Va1w13.out.step hbw34)
    have Va2w34 := Lib.hid (Va2w13.out.step hbw34)
    clear Va0w13
    clear Va1w13
    clear Va2w13
    obtain ⟨la0w34, ca0w34_0, ca0w34_1, ca0w34_2, fa0w34_0, fa0w34_1, fa0w34_2⟩ := Va0w34.out.open3
    obtain ⟨la1w34, ca1w34_0, ca1w34_1, ca1w34_2, fa1w34_0, fa1w34_1, fa1w34_2⟩ := Va1w34.out.open3
    obtain ⟨la2w34, ca2w34_0, fa2w34_0⟩ := Va2w34.out.open1
    clear la0w34 ca0w34_0 ca0w34_1 ca0w34_2 fa0w34_0 fa0w34_1 fa0w34_2 la1w34 ca1w34_0 ca1w34_1 ca1w34_2 fa1w34_0 fa1w34_1 fa1w34_2 la2w34 ca2w34_0 fa2w34_0
    have Vww34 := Lib.hid VVw34
    have tw34 := Vww34.out.lt
    have Iww34 := Lib.hid IIw34
    clear VVw34 IIw34
    obtain ⟨la0w34, ca0w34_0, ca0w34_1, ca0w34_2, fa0w34_0, fa0w34_1, fa0w34_2⟩ := Va0w34.out.open3
    obtain ⟨la1w34, ca1w34_0, ca1w34_1, ca1w34_2, fa1w34_0, fa1w34_1, fa1w34_2⟩ := Va1w34.out.open3
    obtain ⟨la2w34, ca2w34_0, fa2w34_0⟩ := Va2w34.out.open1
    obtain ⟨lww34, cww34_0, cww34_1, cww34_2, fww34_0, fww34_1, fww34_2⟩ := Vww34.out.open3
    go_wp2_with fail
    refine (toImage_any _ _ _ _ _ zs0 _ (arg0.out.below bbw34.out) L0.out hsm0).mono ?_
    rintro e w35 ⟨Aw35, kw35, rfl, Ow35, hbw35⟩
    have Pw35 := Lib.hid Ow35
    clear Ow35
    clear la0w34 ca0w34_0 ca0w34_1 ca0w34_2 fa0w34_0 fa0w34_1 fa0w34_2 la1w34 ca1w34_0 ca1w34_1 ca1w34_2 fa1w34_0 fa1w34_1 fa1w34_2 la2w34 ca2w34_0 fa2w34_0 lww34 cww34_0 cww34_1 cww34_2 fww34_0 fww34_1 fww34_2
    have bbw35 := Lib.hid (later bbw34.out hbw35)
    have hzw35 := hbw35.size
    have Va0w35 := Lib.hid (Va0w34.out.step hbw35)
    have Va1w35 := Lib.hid (Va1w34.out.step hbw35)
    have Va2w35 := Lib.hid (Va2w34.out.step hbw35)
    have Vww35 := Lib.hid (Vww34.out.step hbw35)
    have Iww35 : Hid _ := Lib.hid (Iww34.out.step hbw35)
    clear Va0w34
    clear Va1w34
    clear Va2w34
    clear Vww34
    clear Iww34
    obtain ⟨la0w35, ca0w35_0, ca0w35_1, ca0w35_2, fa0w35_0, fa0w35_1, fa0w35_2⟩ := Va0w35.out.open3
    obtain ⟨la1w35, ca1w35_0, ca1w35_1, ca1w35_2, fa1w35_0, fa1w35_1, fa1w35_2⟩ := Va1w35.out.open3
    obtain ⟨la2w35, ca2w35_0, fa2w35_0⟩ := Va2w35.out.open1
    obtain ⟨lww35, cww35_0, cww35_1, cww35_2, fww35_0, fww35_1, fww35_2⟩ := Vww35.out.open3
    have Ixw35 := Pw35
    clear Pw35
    go_wp2_with fail
    clear la0w35 ca0w35_0 ca0w35_1 ca0w35_2 fa0w35_0 fa0w35_1 fa0w35_2 la1w35 ca1w35_0 ca1w35_1 ca1w35_2 fa1w35_0 fa1w35_1 fa1w35_2 la2w35 ca2w35_0 fa2w35_0 lww35 cww35_0 cww35_1 cww35_2 fww35_0 fww35_1 fww35_2
    have Va0w36 := Lib.hid ((Va0w35.out).alloc (.cells #[.int .i64 ix0, .int .i64 iy0, .slice Aw35 zs0.length kw35] 30 (0, 0)))
    have Va1w36 := Lib.hid ((Va1w35.out).alloc (.cells #[.int .i64 ix0, .int .i64 iy0, .slice Aw35 zs0.length kw35] 30 (0, 0)))
    have Va2w36 := Lib.hid ((Va2w35.out).alloc (.cells #[.int .i64 ix0, .int .i64 iy0, .slice Aw35 zs0.length kw35] 30 (0, 0)))
    have Vww36 := Lib.hid ((Vww35.out).alloc (.cells #[.int .i64 ix0, .int .i64 iy0, .slice Aw35 zs0.length kw35] 30 (0, 0)))
    have Iww36 : Hid _ := Lib.hid ((Iww35.out).alloc (.cells #[.int .i64 ix0, .int .i64 iy0, .slice Aw35 zs0.length kw35] 30 (0, 0)))
    have Ixw36 : Hid _ := Lib.hid ((Ixw35.out).alloc (.cells #[.int .i64 ix0, .int .i64 iy0, .slice Aw35 zs0.length kw35] 30 (0, 0)))
    have Vxw36 := Lib.hid (VB.new (w := w35) (b := w35.heap.size) (t := 30) (cs := [.int .i64 ix0,.int .i64 iy0,.slice Aw35 zs0.length kw35]) (by simp))
    have hbw36 : Below w35.heap.size w35 (w35.alloc (.cells #[.int .i64 ix0, .int .i64 iy0, .slice Aw35 zs0.length kw35] 30 (0, 0))) := by go_grown
    have bbw36 : Hid (Below w.heap.size w (w35.alloc (.cells #[.int .i64 ix0, .int .i64 iy0, .slice Aw35 zs0.length kw35] 30 (0, 0)))) := Lib.hid (later bbw35.out hbw36)
    have hzw36 : w35.heap.size + 1 ≤ (w35.alloc (.cells #[.int .i64 ix0, .int .i64 iy0, .slice Aw35 zs0.length kw35] 30 (0, 0))).heap.size := by simp
    generalize (w35.alloc (.cells #[.int .i64 ix0, .int .i64 iy0, .slice Aw35 zs0.length kw35] 30 (0, 0))) = w36 at *
    obtain ⟨la0w36, ca0w36_0, ca0w36_1, ca0w36_2, fa0w36_0, fa0w36_1, fa0w36_2⟩ := Va0w36.out.open3
    obtain ⟨la1w36, ca1w36_0, ca1w36_1, ca1w36_2, fa1w36_0, fa1w36_1, fa1w36_2⟩ := Va1w36.out.open3
    obtain ⟨la2w36, ca2w36_0, fa2w36_0⟩ := Va2w36.out.open1
    obtain ⟨lww36, cww36_0, cww36_1, cww36_2, fww36_0, fww36_1, fww36_2⟩ := Vww36.out.open3
    obtain ⟨lxw36, cxw36_0, cxw36_1, cxw36_2, fxw36_0, fxw36_1, fxw36_2⟩ := Vxw36.out.open3
    refine (toImage_any _ _ _ _ _ zs1 _ (arg1.out.below bbw36.out) L1.out hsm1).mono ?_
    rintro e w37 ⟨Aw37, kw37, rfl, Ow37, hbw37⟩
    have Pw37 := Lib.hid Ow37
    clear Ow37
    clear la0w36 ca0w36_0 ca0w36_1 ca0w36_2 fa0w36_0 fa0w36_1 fa0w36_2 la1w36 ca1w36_0 ca1w36_1 ca1w36_2 fa1w36_0 fa1w36_1 fa1w36_2 la2w36 ca2w36_0 fa2w36_0 lww36 cww36_0 cww36_1 cww36_2 fww36_0 fww36_1 fww36_2 lxw36 cxw36_0 cxw36_1 cxw36_2 fxw36_0 fxw36_1 fxw36_2
    have bbw37 := Lib.hid (later bbw36.out hbw37)
    have hzw37 := hbw37.size
    have Va0w37 := Lib.hid (Va0w36.out.step hbw37)
    have Va1w37 := Lib.hid (Va1w36.out.step hbw37)
    have Va2w37 := Lib.hid (Va2w36.out.step hbw37)
    have Vww37 := Lib.hid (Vww36.out.step hbw37)
    have Vxw37 := Lib.hid (Vxw36.out.step hbw37)
    have Iww37 : Hid _ := Lib.hid (Iww36.out.step hbw37)
    have Ixw37 : Hid _ := Lib.hid (Ixw36.out.step hbw37)
    clear Va0w36
    clear Va1w36
    clear Va2w36
    clear Vww36
    clear Vxw36
    clear Iww36
    clear Ixw36
    obtain ⟨la0w37, ca0w37_0, ca0w37_1, ca0w37_2, fa0w37_0, fa0w37_1, fa0w37_2⟩ := Va0w37.out.open3
    obtain ⟨la1w37, ca1w37_0, ca1w37_1, ca1w37_2, fa1w37_0, fa1w37_1, fa1w37_2⟩ := Va1w37.out.open3
    obtain ⟨la2w37, ca2w37_0, fa2w37_0⟩ := Va2w37.out.open1
    obtain ⟨lww37, cww37_0, cww37_1, cww37_2, fww37_0, fww37_1, fww37_2⟩ := Vww37.out.open3
    obtain ⟨lxw37, cxw37_0, cxw37_1, cxw37_2, fxw37_0, fxw37_1, fxw37_2⟩ := Vxw37.out.open3
    have Iyw37 := Pw37
    clear Pw37
    go_wp2_with fail
    clear la0w37 ca0w37_0 ca0w37_1 ca0w37_2 fa0w37_0 fa0w37_1 fa0w37_2 la1w37 ca1w37_0 ca1w37_1 ca1w37_2 fa1w37_0 fa1w37_1 fa1w37_2 la2w37 ca2w37_0 fa2w37_0 lww37 cww37_0 cww37_1 cww37_2 fww37_0 fww37_1 fww37_2 lxw37 cxw37_0 cxw37_1 cxw37_2 fxw37_0 fxw37_1 fxw37_2
    have Va0w38 := Lib.hid ((Va0w37.out).alloc (.cells #[.int .i64 ix1, .int .i64 iy1, .slice Aw37 zs1.length kw37] 30 (0, 0)))
    have Va1w38 := Lib.hid ((Va1w37.out).alloc (.cells #[.int .i64 ix1, .int .i64 iy1, .slice Aw37 zs1.length kw37] 30 (0, 0)))
    have Va2w38 := Lib.hid ((Va2w37.out).alloc (.cells #[.int .i64 ix1, .int .i64 iy1, .slice Aw37 zs1.length kw37] 30 (0, 0)))
    have Vww38 := Lib.hid ((Vww37.out).alloc (.cells #[.int .i64 ix1, .int .i64 iy1, .slice Aw37 zs1.length kw37] 30 (0, 0)))
    have Vxw38 := Lib.hid ((Vxw37.out).alloc (.cells #[.int .i64 ix1, .int .i64 iy1, .slice Aw37 zs1.length kw37] 30 (0, 0)))
    have Iww38 : Hid _ := Lib.hid ((Iww37.out).alloc (.cells #[.int .i64 ix1, .int .i64 iy1, .slice Aw37 zs1.length kw37] 30 (0, 0)))
    have Ixw38 : Hid _ := Lib.hid ((Ixw37.out).alloc (.cells #[.int .i64 ix1, .int .i64 iy1, .slice Aw37 zs1.length kw37] 30 (0, 0)))
    have Iyw38 : Hid _ := Lib.hid ((Iyw37.out).alloc (.cells #[.int .i64 ix1, .int .i64 iy1, .slice Aw37 zs1.length kw37] 30 (0, 0)))
    have Vyw38 := Lib.hid (VB.new (w := w37) (b := w37.heap.size) (t := 30) (cs := [.int .i64 ix1,.int .i64 iy1,.slice Aw37 zs1.length kw37]) (by simp))
    have hbw38 : Below w37.heap.size w37 (w37.alloc (.cells #[.int .i64 ix1, .int .i64 iy1, .slice Aw37 zs1.length kw37] 30 (0, 0))) := by go_grown
    have bbw38 : Hid (Below w.heap.size w (w37.alloc (.cells #[.int .i64 ix1, .int .i64 iy1, .slice Aw37 zs1.length kw37] 30 (0, 0)))) := Lib.hid (later bbw37.out hbw38)
    have hzw38 : w37.heap.size + 1 ≤ (w37.alloc (.cells #[.int .i64 ix1, .int .i64 iy1, .slice Aw37 zs1.length kw37] 30 (0, 0))).heap.size := by simp
    generalize (w37.alloc (.cells #[.int .i64 ix1, .int .i64 iy1, .slice Aw37 zs1.length kw37] 30 (0, 0))) = w38 at *
    obtain ⟨la0w38, ca0w38_0, ca0w38_1, ca0w38_2, fa0w38_0, fa0w38_1, fa0w38_2⟩ := Va0w38.out.open3
    obtain ⟨la1w38, ca1w38_0, ca1w38_1, ca1w38_2, fa1w38_0, fa1w38_1, fa1w38_2⟩ := Va1w38.out.open3
    obtain ⟨la2w38, ca2w38_0, fa2w38_0⟩ := Va2w38.out.open1
    obtain ⟨lww38, cww38_0, cww38_1, cww38_2, fww38_0, fww38_1, fww38_2⟩ := Vww38.out.open3
    obtain ⟨lxw38, cxw38_0, cxw38_1, cxw38_2, fxw38_0, fxw38_1, fxw38_2⟩ := Vxw38.out.open3
    obtain ⟨lyw38, cyw38_0, cyw38_1, cyw38_2, fyw38_0, fyw38_1, fyw38_2⟩ := Vyw38.out.open3
    refine (toRegion_any _ _ _ zs2 _ (arg2.out.below bbw38.out) L2.out hsm2).mono ?_
    rintro e w39 ⟨Aw39, kw39, rfl, Ow39, hbw39⟩
    have Pw39 := Lib.hid Ow39
    clear Ow39
    clear la0w38 ca0w38_0 ca0w38_1 ca0w38_2 fa0w38_0 fa0w38_1 fa0w38_2 la1w38 ca1w38_0 ca1w38_1 ca1w38_2 fa1w38_0 fa1w38_1 fa1w38_2 la2w38 ca2w38_0 fa2w38_0 lww38 cww38_0 cww38_1 cww38_2 fww38_0 fww38_1 fww38_2 lxw38 cxw38_0 cxw38_1 cxw38_2 fxw38_0 fxw38_1 fxw38_2 lyw38 cyw38_0 cyw38_1 cyw38_2 fyw38_0 fyw38_1 fyw38_2
    have bbw39 := Lib.hid (later bbw38.out hbw39)
    have hzw39 := hbw39.size
    have Va0w39 := Lib.hid (Va0w38.out.step hbw39)
    have Va1w39 := Lib.hid (Va1w38.out.step hbw39)
    have Va2w39 := Lib.hid (Va2w38.out.step hbw39)
    have Vww39 := Lib.hid (Vww38.out.step hbw39)
    have Vxw39 := Lib.hid (Vxw38.out.step hbw39)
    have Vyw39 := Lib.hid (Vyw38.out.step hbw39)
    have Iww39 : Hid _ := Lib.hid (Iww38.out.step hbw39)
    have Ixw39 : Hid _ := Lib.hid (Ixw38.out.step hbw39)
    have Iyw39 : Hid _ := Lib.hid (Iyw38.out.step hbw39)
    clear Va0w38
    clear Va1w38
    clear Va2w38
    clear Vww38
    clear Vxw38
    clear Vyw38
    clear Iww38
    clear Ixw38
    clear Iyw38
    obtain ⟨la0w39, ca0w39_0, ca0w39_1, ca0w39_2, fa0w39_0, fa0w39_1, fa0w39_2⟩ := Va0w39.out.open3
    obtain ⟨la1w39, ca1w39_0, ca1w39_1, ca1w39_2, fa1w39_0, fa1w39_1, fa1w39_2⟩ := Va1w39.out.open3
    obtain ⟨la2w39, ca2w39_0, fa2w39_0⟩ := Va2w39.out.open1
    obtain ⟨lww39, cww39_0, cww39_1, cww39_2, fww39_0, fww39_1, fww39_2⟩ := Vww39.out.open3
    obtain ⟨lxw39, cxw39_0, cxw39_1, cxw39_2, fxw39_0, fxw39_1, fxw39_2⟩ := Vxw39.out.open3
    obtain ⟨lyw39, cyw39_0, cyw39_1, cyw39_2, fyw39_0, fyw39_1, fyw39_2⟩ := Vyw39.out.open3
    have Izw39 := Pw39
    clear Pw39
    go_wp2_with fail
    clear la0w39 ca0w39_0 ca0w39_1 ca0w39_2 fa0w39_0 fa0w39_1 fa0w39_2 la1w39 ca1w39_0 ca1w39_1 ca1w39_2 fa1w39_0 fa1w39_1 fa1w39_2 la2w39 ca2w39_0 fa2w39_0 lww39 cww39_0 cww39_1 cww39_2 fww39_0 fww39_1 fww39_2 lxw39 cxw39_0 cxw39_1 cxw39_2 fxw39_0 fxw39_1 fxw39_2 lyw39 cyw39_0 cyw39_1 cyw39_2 fyw39_0 fyw39_1 fyw39_2
    have Va0w40 := Lib.hid ((Va0w39.out).alloc (.cells #[.slice Aw39 zs2.length kw39] 28 (0, 0)))
    have Va1w40 := Lib.hid ((Va1w39.out).alloc (.cells #[.slice Aw39 zs2.length kw39] 28 (0, 0)))
    have Va2w40 := Lib.hid ((Va2w39.out).alloc (.cells #[.slice Aw39 zs2.length kw39] 28 (0, 0)))
    have Vww40 := Lib.hid ((Vww39.out).alloc (.cells #[.slice Aw39 zs2.length kw39] 28 (0, 0)))
    have Vxw40 := Lib.hid ((Vxw39.out).alloc (.cells #[.slice Aw39 zs2.length kw39] 28 (0, 0)))
    have Vyw40 := Lib.hid ((Vyw39.out).alloc (.cells #[.slice Aw39 zs2.length kw39] 28 (0, 0)))
    have Iww40 : Hid _ := Lib.hid ((Iww39.out).alloc (.cells #[.slice Aw39 zs2.length kw39] 28 (0, 0)))
    have Ixw40 : Hid _ := Lib.hid ((Ixw39.out).alloc (.cells #[.slice Aw39 zs2.length kw39] 28 (0, 0)))
    have Iyw40 : Hid _ := Lib.hid ((Iyw39.out).alloc (.cells #[.slice Aw39 zs2.length kw39] 28 (0, 0)))
    have Izw40 : Hid _ := Lib.hid ((Izw39.out).alloc (.cells #[.slice Aw39 zs2.length kw39] 28 (0, 0)))
    have Vzw40 := Lib.hid (VB.new (w := w39) (b := w39.heap.size) (t := 28) (cs := [.slice Aw39 zs2.length kw39]) (by simp))
    have hbw40 : Below w39.heap.size w39 (w39.alloc (.cells #[.slice Aw39 zs2.length kw39] 28 (0, 0))) := by go_grown
    have bbw40 : Hid (Below w.heap.size w (w39.alloc (.cells #[.slice Aw39 zs2.length kw39] 28 (0, 0)))) := Lib.hid (later bbw39.out hbw40)
    have hzw40 : w39.heap.size + 1 ≤ (w39.alloc (.cells #[.slice Aw39 zs2.length kw39] 28 (0, 0))).heap.size := by simp
    generalize (w39.alloc (.cells #[.slice Aw39 zs2.length kw39] 28 (0, 0))) = w40 at *
    obtain ⟨la0w40, ca0w40_0, ca0w40_1, ca0w40_2, fa0w40_0, fa0w40_1, fa0w40_2⟩ := Va0w40.out.open3
    obtain ⟨la1w40, ca1w40_0, ca1w40_1, ca1w40_2, fa1w40_0, fa1w40_1, fa1w40_2⟩ := Va1w40.out.open3
    obtain ⟨la2w40, ca2w40_0, fa2w40_0⟩ := Va2w40.out.open1
    obtain ⟨lww40, cww40_0, cww40_1, cww40_2, fww40_0, fww40_1, fww40_2⟩ := Vww40.out.open3
    obtain ⟨lxw40, cxw40_0, cxw40_1, cxw40_2, fxw40_0, fxw40_1, fxw40_2⟩ := Vxw40.out.open3
    obtain ⟨lyw40, cyw40_0, cyw40_1, cyw40_2, fyw40_0, fyw40_1, fyw40_2⟩ := Vyw40.out.open3
    obtain ⟨lzw40, czw40_0, fzw40_0⟩ := Vzw40.out.open1
    refine (implCopyRegion ix0 iy0 ix1 iy1 _ _ _ _ _ _ _ _ _ _ _ _ _ zs0 zs1 zs2 _ Ixw40.out Iyw40.out (Recs.arg Izw40.out) rfl hN0 (by omega)).mono ?_
    rintro e w41 ⟨Aw41, kw41, rfl, Ow41, hbw41⟩
    have Pw41 := Lib.hid Ow41
    clear Ow41
    clear la0w40 ca0w40_0 ca0w40_1 ca0w40_2 fa0w40_0 fa0w40_1 fa0w40_2 la1w40 ca1w40_0 ca1w40_1 ca1w40_2 fa1w40_0 fa1w40_1 fa1w40_2 la2w40 ca2w40_0 fa2w40_0 lww40 cww40_0 cww40_1 cww40_2 fww40_0 fww40_1 fww40_2 lxw40 cxw40_0 cxw40_1 cxw40_2 fxw40_0 fxw40_1 fxw40_2 lyw40 cyw40_0 cyw40_1 cyw40_2 fyw40_0 fyw40_1 fyw40_2 lzw40 czw40_0 fzw40_0
    have bbw41 := Lib.hid (later bbw40.out hbw41)
    have hzw41 := hbw41.size
    have Va0w41 := Lib.hid (Va0w40.out.step hbw41)
    have Va1w41 := Lib.hid (Va1w40.out.step hbw41)
    have Va2w41 := Lib.hid (Va2w40.out.step hbw41)
    have Vww41 := Lib.hid (Vww40.out.step hbw41)
    have Vxw41 := Lib.hid (Vxw40.out.step hbw41)
    have Vyw41 := Lib.hid (Vyw40.out.step hbw41)
    have Vzw41 := Lib.hid (Vzw40.out.step hbw41)
    have Iww41 : Hid _ := Lib.hid (Iww40.out.step hbw41)
    have Ixw41 : Hid _ := Lib.hid (Ixw40.out.step hbw41)
    have Iyw41 : Hid _ := Lib.hid (Iyw40.out.step hbw41)
    have Izw41 : Hid _ := Lib.hid (Izw40.out.step hbw41)
    clear Va0w40
    clear Va1w40
    clear Va2w40
    clear Vww40
    clear Vxw40
    clear Vyw40
    clear Vzw40
    clear Iww40
    clear Ixw40
    clear Iyw40
    clear Izw40
    obtain ⟨la0w41, ca0w41_0, ca0w41_1, ca0w41_2, fa0w41_0, fa0w41_1, fa0w41_2⟩ := Va0w41.out.open3
    obtain ⟨la1w41, ca1w41_0, ca1w41_1, ca1w41_2, fa1w41_0, fa1w41_1, fa1w41_2⟩ := Va1w41.out.open3
    obtain ⟨la2w41, ca2w41_0, fa2w41_0⟩ := Va2w41.out.open1
    obtain ⟨lww41, cww41_0, cww41_1, cww41_2, fww41_0, fww41_1, fww41_2⟩ := Vww41.out.open3
    obtain ⟨lxw41, cxw41_0, cxw41_1, cxw41_2, fxw41_0, fxw41_1, fxw41_2⟩ := Vxw41.out.open3
    obtain ⟨lyw41, cyw41_0, cyw41_1, cyw41_2, fyw41_0, fyw41_1, fyw41_2⟩ := Vyw41.out.open3
    obtain ⟨lzw41, czw41_0, fzw41_0⟩ := Vzw41.out.open1
    have Igw41 := Pw41
    clear Pw41
    go_wp2_with fail
    clear la0w41 ca0w41_0 ca0w41_1 ca0w41_2 fa0w41_0 fa0w41_1 fa0w41_2 la1w41 ca1w41_0 ca1w41_1 ca1w41_2 fa1w41_0 fa1w41_1 fa1w41_2 la2w41 ca2w41_0 fa2w41_0 lww41 cww41_0 cww41_1 cww41_2 fww41_0 fww41_1 fww41_2 lxw41 cxw41_0 cxw41_1 cxw41_2 fxw41_0 fxw41_1 fxw41_2 lyw41 cyw41_0 cyw41_1 cyw41_2 fyw41_0 fyw41_1 fyw41_2 lzw41 czw41_0 fzw41_0
    have Va0w42 := Lib.hid ((Va0w41.out).alloc (.cells #[.int .i64 (Pl.copyRegion ⟨ix0, iy0, zs0⟩ ⟨ix1, iy1, zs1⟩ zs2).w, .int .i64 (Pl.copyRegion ⟨ix0, iy0, zs0⟩ ⟨ix1, iy1, zs1⟩ zs2).h, .slice Aw41 (Pl.copyRegion ⟨ix0, iy0, zs0⟩ ⟨ix1, iy1, zs1⟩ zs2).d.length kw41] 30 (0, 0)))
    have Va1w42 := Lib.hid ((Va1w41.out).alloc (.cells #[.int .i64 (Pl.copyRegion ⟨ix0, iy0, zs0⟩ ⟨ix1, iy1, zs1⟩ zs2).w, .int .i64 (Pl.copyRegion ⟨ix0, iy0, zs0⟩ ⟨ix1, iy1, zs1⟩ zs2).h, .slice Aw41 (Pl.copyRegion ⟨ix0, iy0, zs0⟩ ⟨ix1, iy1, zs1⟩ zs2).d.length kw41] 30 (0, 0)))
    have Va2w42 := Lib.hid ((Va2w41.out).alloc (.cells #[.int .i64 (Pl.copyRegion ⟨ix0, iy0, zs0⟩ ⟨ix1, iy1, zs1⟩ zs2).w, .int .i64 (Pl.copyRegion ⟨ix0, iy0, zs0⟩ ⟨ix1, iy1, zs1⟩ zs2).h, .slice Aw41 (Pl.copyRegion ⟨ix0, iy0, zs0⟩ ⟨ix1, iy1, zs1⟩ zs2).d.length kw41] 30 (0, 0)))
    have Vww42 := Lib.hid ((Vww41.out).alloc (.cells #[.int .i64 (Pl.copyRegion ⟨ix0, iy0, zs0⟩ ⟨ix1, iy1, zs1⟩ zs2).w, .int .i64 (Pl.copyRegion ⟨ix0, iy0, zs0⟩ ⟨ix1, iy1, zs1⟩ zs2).h, .slice Aw41 (Pl.copyRegion ⟨ix0, iy0, zs0⟩ ⟨ix1, iy1, zs1⟩ zs2).d.length kw41] 30 (0, 0)))
    have Vxw42 := Lib.hid ((Vxw41.out).alloc (.cells #[.int .i64 (Pl.copyRegion ⟨ix0, iy0, zs0⟩ ⟨ix1, iy1, zs1⟩ zs2).w, .int .i64 (Pl.copyRegion ⟨ix0, iy0, zs0⟩ ⟨ix1, iy1, zs1⟩ zs2).h, .slice Aw41 (Pl.copyRegion ⟨ix0, iy0, zs0⟩ ⟨ix1, iy1, zs1⟩ zs2).d.length kw41] 30 (0, 0)))
    have Vyw42 := Lib.hid ((Vyw41.out).alloc (.cells #[.int .i64 (Pl.copyRegion ⟨ix0, iy0, zs0⟩ ⟨ix1, iy1, zs1⟩ zs2).w, .int .i64 (Pl.copyRegion ⟨ix0, iy0, zs0⟩ ⟨ix1, iy1, zs1⟩ zs2).h, .slice Aw41 (Pl.copyRegion ⟨ix0, iy0, zs0⟩ ⟨ix1, iy1, zs1⟩ zs2).d.length kw41] 30 (0, 0)))
    have Vzw42 := Lib.hid ((Vzw41.out).alloc (.cells #[.int .i64 (Pl.copyRegion ⟨ix0, iy0, zs0⟩ ⟨ix1, iy1, zs1⟩ zs2).w, .int .i64 (Pl.copyRegion ⟨ix0, iy0, zs0⟩ ⟨ix1, iy1, zs1⟩ zs2).h, .slice Aw41 (Pl.copyRegion ⟨ix0, iy0, zs0⟩ ⟨ix1, iy1, zs1⟩ zs2).d.length kw41] 30 (0, 0)))
    have Iww42 : Hid _ := Lib.hid ((Iww41.out).alloc (.cells #[.int .i64 (Pl.copyRegion ⟨ix0, iy0, zs0⟩ ⟨ix1, iy1, zs1⟩ zs2).w, .int .i64 (Pl.copyRegion ⟨ix0, iy0, zs0⟩ ⟨ix1, iy1, zs1⟩ zs2).h, .slice Aw41 (Pl.copyRegion ⟨ix0, iy0, zs0⟩ ⟨ix1, iy1, zs1⟩ zs2).d.length kw41] 30 (0, 0)))
    have Ixw42 : Hid _ := Lib.hid ((Ixw41.out).alloc (.cells #[.int .i64 (Pl.copyRegion ⟨ix0, iy0, zs0⟩ ⟨ix1, iy1, zs1⟩ zs2).w, .int .i64 (Pl.copyRegion ⟨ix0, iy0, zs0⟩ ⟨ix1, iy1, zs1⟩ zs2).h, .slice Aw41 (Pl.copyRegion ⟨ix0, iy0, zs0⟩ ⟨ix1, iy1, zs1⟩ zs2).d.length kw41] 30 (0, 0)))
    have Iyw42 : Hid _ := Lib.hid ((Iyw41.out).alloc (.cells #[.int .i64 (Pl.copyRegion ⟨ix0, iy0, zs0⟩ ⟨ix1, iy1, zs1⟩ zs2).w, .int .i64 (Pl.copyRegion ⟨ix0, iy0, zs0⟩ ⟨ix1, iy1, zs1⟩ zs2).h, .slice Aw41 (Pl.copyRegion ⟨ix0, iy0, zs0⟩ ⟨ix1, iy1, zs1⟩ zs2).d.length kw41] 30 (0, 0)))
    have Izw42 : Hid _ := Lib.hid ((Izw41.out).alloc (.cells #[.int .i64 (Pl.copyRegion ⟨ix0, iy0, zs0⟩ ⟨ix1, iy1, zs1⟩ zs2).w, .int .i64 (Pl.copyRegion ⟨ix0, iy0, zs0⟩ ⟨ix1, iy1, zs1⟩ zs2).h, .slice Aw41 (Pl.copyRegion ⟨ix0, iy0, zs0⟩ ⟨ix1, iy1, zs1⟩ zs2).d.length kw41] 30 (0, 0)))
    have Igw42 : Hid _ := Lib.hid ((Igw41.out).alloc (.cells #[.int .i64 (Pl.copyRegion ⟨ix0, iy0, zs0⟩ ⟨ix1, iy1, zs1⟩ zs2).w, .int .i64 (Pl.copyRegion ⟨ix0, iy0, zs0⟩ ⟨ix1, iy1, zs1⟩ zs2).h, .slice Aw41 (Pl.copyRegion ⟨ix0, iy0, zs0⟩ ⟨ix1, iy1, zs1⟩ zs2).d.length kw41] 30 (0, 0)))
    have Vgw42 := Lib.hid (VB.new (w := w41) (b := w41.heap.size) (t := 30) (cs := [.int .i64 (Pl.copyRegion ⟨ix0, iy0, zs0⟩ ⟨ix1, iy1, zs1⟩ zs2).w,.int .i64 (Pl.copyRegion ⟨ix0, iy0, zs0⟩ ⟨ix1, iy1, zs1⟩ zs2).h,.slice Aw41 (Pl.copyRegion ⟨ix0, iy0, zs0⟩ ⟨ix1, iy1, zs1⟩ zs2).d.length kw41]) (by simp))
    have hbw42 : Below w41.heap.size w41 (w41.alloc (.cells #[.int .i64 (Pl.copyRegion ⟨ix0, iy0, zs0⟩ ⟨ix1, iy1, zs1⟩ zs2).w, .int .i64 (Pl.copyRegion ⟨ix0, iy0, zs0⟩ ⟨ix1, iy1, zs1⟩ zs2).h, .slice Aw41 (Pl.copyRegion ⟨ix0, iy0, zs0⟩ ⟨ix1, iy1, zs1⟩ zs2).d.length kw41] 30 (0, 0))) := by go_grown
    have bbw42 : Hid (Below w.heap.size w (w41.alloc (.cells #[.int .i64 (Pl.copyRegion ⟨ix0, iy0, zs0⟩ ⟨ix1, iy1, zs1⟩ zs2).w, .int .i64 (Pl.copyRegion ⟨ix0, iy0, zs0⟩ ⟨ix1, iy1, zs1⟩ zs2).h, .slice Aw41 (Pl.copyRegion ⟨ix0, iy0, zs0⟩ ⟨ix1, iy1, zs1⟩ zs2).d.length kw41] 30 (0, 0)))) := Lib.hid (later bbw41.out hbw42)
    have hzw42 : w41.heap.size + 1 ≤ (w41.alloc (.cells #[.int .i64 (Pl.copyRegion ⟨ix0, iy0, zs0⟩ ⟨ix1, iy1, zs1⟩ zs2).w, .int .i64 (Pl.copyRegion ⟨ix0, iy0, zs0⟩ ⟨ix1, iy1, zs1⟩ zs2).h, .slice Aw41 (Pl.copyRegion ⟨ix0, iy0, zs0⟩ ⟨ix1, iy1, zs1⟩ zs2).d.length kw41] 30 (0, 0))).heap.size := by simp
    generalize (w41.alloc (.cells #[.int .i64 (Pl.copyRegion ⟨ix0, iy0, zs0⟩ ⟨ix1, iy1, zs1⟩ zs2).w, .int .i64 (Pl.copyRegion ⟨ix0, iy0, zs0⟩ ⟨ix1, iy1, zs1⟩ zs2).h, .slice Aw41 (Pl.copyRegion ⟨ix0, iy0, zs0⟩ ⟨ix1, iy1, zs1⟩ zs2).d.length kw41] 30 (0, 0))) = w42 at *
    obtain ⟨la0w42, ca0w42_0, ca0w42_1, ca0w42_2, fa0w42_0, fa0w42_1, fa0w42_2⟩ := Va0w42.out.open3
    obtain ⟨la1w42, ca1w42_0, ca1w42_1, ca1w42_2, fa1w42_0, fa1w42_1, fa1w42_2⟩ := Va1w42.out.open3
    obtain ⟨la2w42, ca2w42_0, fa2w42_0⟩ := Va2w42.out.open1
    obtain ⟨lww42, cww42_0, cww42_1, cww42_2, fww42_0, fww42_1, fww42_2⟩ := Vww42.out.open3
    obtain ⟨lxw42, cxw42_0, cxw42_1, cxw42_2, fxw42_0, fxw42_1, fxw42_2⟩ := Vxw42.out.open3
    obtain ⟨lyw42, cyw42_0, cyw42_1, cyw42_2, fyw42_0, fyw42_1, fyw42_2⟩ := Vyw42.out.open3
    obtain ⟨lzw42, czw42_0, fzw42_0⟩ := Vzw42.out.open1
    obtain ⟨lgw42, cgw42_0, cgw42_1, cgw42_2, fgw42_0, fgw42_1, fgw42_2⟩ := Vgw42.out.open3
    refine (eqImage_same (Pl.copyRegion ⟨ix0, iy0, zs0⟩ ⟨ix1, iy1, zs1⟩ zs2).w (Pl.copyRegion ⟨ix0, iy0, zs0⟩ ⟨ix1, iy1, zs1⟩ zs2).h _ _ _ _ _ _ _ _ _ _ (Pl.copyRegion ⟨ix0, iy0, zs0⟩ ⟨ix1, iy1, zs1⟩ zs2).d _ Igw42.out Iww42.out).mono ?_
    rintro e w43 ⟨rfl, hbw43⟩
    clear la0w42 ca0w42_0 ca0w42_1 ca0w42_2 fa0w42_0 fa0w42_1 fa0w42_2 la1w42 ca1w42_0 ca1w42_1 ca1w42_2 fa1w42_0 fa1w42_1 fa1w42_2 la2w42 ca2w42_0 fa2w42_0 lww42 cww42_0 cww42_1 cww42_2 fww42_0 fww42_1 fww42_2 lxw42 cxw42_0 cxw42_1 cxw42_2 fxw42_0 fxw42_1 fxw42_2 lyw42 cyw42_0 cyw42_1 cyw42_2 fyw42_0 fyw42_1 fyw42_2 lzw42 czw42_0 fzw42_0 lgw42 cgw42_0 cgw42_1 cgw42_2 fgw42_0 fgw42_1 fgw42_2
    have bbw43 := Lib.hid (later bbw42.out hbw43)
    have hzw43 := hbw43.size
    have Va0w43 := Lib.hid (Va0w42.out.step hbw43)
    have Va1w43 := Lib.hid (Va1w42.out.step hbw43)
    have Va2w43 := Lib.hid (Va2w42.out.step hbw43)
    have Vww43 := Lib.hid (Vww42.out.step hbw43)
    have Vxw43 := Lib.hid (Vxw42.out.step hbw43)
    have Vyw43 := Lib.hid (Vyw42.out.step hbw43)
    have Vzw43 := Lib.hid (Vzw42.out.step hbw43)
    have Vgw43 := Lib.hid (Vgw42.out.step hbw43)
    have Iww43 : Hid _ := Lib.hid (Iww42.out.step hbw43)
    have Ixw43 : Hid _ := Lib.hid (Ixw42.out.step hbw43)
    have Iyw43 : Hid _ := Lib.hid (Iyw42.out.step hbw43)
    have Izw43 : Hid _ := Lib.hid (Izw42.out.step hbw43)
    have Igw43 : Hid _ := Lib.hid (Igw42.out.step hbw43)
    clear Va0w42
    clear Va1w42
    clear Va2w42
    clear Vww42
    clear Vxw42
    clear Vyw42
    clear Vzw42
    clear Vgw42
    clear Iww42
    clear Ixw42
    clear Iyw42
    clear Izw42
    clear Igw42
    obtain ⟨la0w43, ca0w43_0, ca0w43_1, ca0w43_2, fa0w43_0, fa0w43_1, fa0w43_2⟩ := Va0w43.out.open3
    obtain ⟨la1w43, ca1w43_0, ca1w43_1, ca1w43_2, fa1w43_0, fa1w43_1, fa1w43_2⟩ := Va1w43.out.open3
    obtain ⟨la2w43, ca2w43_0, fa2w43_0⟩ := Va2w43.out.open1
    obtain ⟨lww43, cww43_0, cww43_1, cww43_2, fww43_0, fww43_1, fww43_2⟩ := Vww43.out.open3
    obtain ⟨lxw43, cxw43_0, cxw43_1, cxw43_2, fxw43_0, fxw43_1, fxw43_2⟩ := Vxw43.out.open3
    obtain ⟨lyw43, cyw43_0, cyw43_1, cyw43_2, fyw43_0, fyw43_1, fyw43_2⟩ := Vyw43.out.open3
    obtain ⟨lzw43, czw43_0, fzw43_0⟩ := Vzw43.out.open1
    obtain ⟨lgw43, cgw43_0, cgw43_1, cgw43_2, fgw43_0, fgw43_1, fgw43_2⟩ := Vgw43.out.open3
    go_wp2_with fail
    clear la0w43 ca0w43_0 ca0w43_1 ca0w43_2 fa0w43_0 fa0w43_1 fa0w43_2 la1w43 ca1w43_0 ca1w43_1 ca1w43_2 fa1w43_0 fa1w43_1 fa1w43_2 la2w43 ca2w43_0 fa2w43_0 lww43 cww43_0 cww43_1 cww43_2 fww43_0 fww43_1 fww43_2 lxw43 cxw43_0 cxw43_1 cxw43_2 fxw43_0 fxw43_1 fxw43_2 lyw43 cyw43_0 cyw43_1 cyw43_2 fyw43_0 fyw43_1 fyw43_2 lzw43 czw43_0 fzw43_0 lgw43 cgw43_0 cgw43_1 cgw43_2 fgw43_0 fgw43_1 fgw43_2
    have bbw44 : Hid (Below w.heap.size w w43.drew) := Lib.hid (Below.drew bbw43.out)
    have hzw44 : w43.heap.size ≤ w43.drew.heap.size := Nat.le_refl _
    have Va0w44 := Lib.hid (VB.drew Va0w43.out)
    have Va1w44 := Lib.hid (VB.drew Va1w43.out)
    have Va2w44 := Lib.hid (VB.drew Va2w43.out)
    have Vww44 := Lib.hid (VB.drew Vww43.out)
    have Vxw44 := Lib.hid (VB.drew Vxw43.out)
    have Vyw44 := Lib.hid (VB.drew Vyw43.out)
    have Vzw44 := Lib.hid (VB.drew Vzw43.out)
    have Vgw44 := Lib.hid (VB.drew Vgw43.out)
    have Iww44 : Hid _ := Lib.hid (show Ints w43.drew _ _ _ _ from Iww43.out)
    have Ixw44 : Hid _ := Lib.hid (show Ints w43.drew _ _ _ _ from Ixw43.out)
    have Iyw44 : Hid _ := Lib.hid (show Ints w43.drew _ _ _ _ from Iyw43.out)
    have Izw44 : Hid _ := Lib.hid (show Recs w43.drew _ _ _ _ from Izw43.out)
    have Igw44 : Hid _ := Lib.hid (show Ints w43.drew _ _ _ _ from Igw43.out)
    refine regionL (S := (fun w' => VB w' (w35.heap.size) [.int .i64 ix0, .int .i64 iy0, .slice Aw35 zs0.length kw35] ∧ VB w' (w.heap.size) [.int .i64 ix0, .int .i64 iy0, .slice A0 n0 c0])) (L := 5) (by kernel_rfl) ?_ (fun hHeld => ?_)
    · (first | exact ⟨VB.step (hHeld.1) B9, VB.step (hHeld.2) B9⟩ | exact ⟨VB.alloc (hHeld.1) _, VB.alloc (hHeld.2) _⟩ | exact ⟨VB.drew (VB.alloc (show VB w43 _ _ from hHeld.1) _), VB.drew (VB.alloc (show VB w43 _ _ from hHeld.2) _)⟩ | exact ⟨VB.drew Vxw43.out, VB.drew Va0w43.out⟩)
    refine takeL (i := 0) (oi := ?_) (v := ?_) ?_ (by kernel_rfl) (by kernel_rfl) (by kernel_rfl) (by kernel_rfl) ?_ (Or.inl ⟨?_, ?_⟩) (by assumption) ?_
    rotate_left 2
    · (simp only [List.getElem?_toArray, List.getElem?_cons_succ, List.getElem?_cons_zero]; rfl)
    · exact fun _ _ _ h => h
    · rfl
    · (intro w hSw; (try dsimp only at hSw); obtain ⟨S0, S1⟩ := hSw; obtain ⟨l0S, c0S0, c0S1, c0S2, _⟩ := S0.open3; obtain ⟨l1S, c1S0, c1S1, c1S2, _⟩ := S1.open3; clear S0 S1; go_simp; (try with_reducible rfl))
    try simp only [Act.put, List.setIfInBounds_toArray, List.set_cons_zero, List.set_cons_succ]
    refine takeL (i := 1) (oi := ?_) (v := ?_) ?_ (by kernel_rfl) (by kernel_rfl) (by kernel_rfl) (by kernel_rfl) ?_ (Or.inl ⟨?_, ?_⟩) (by assumption) ?_
    rotate_left 2
    · (simp only [List.getElem?_toArray, List.getElem?_cons_succ, List.getElem?_cons_zero]; rfl)
    · exact fun _ _ _ h => h
    · rfl
    · (intro w hSw; (try dsimp only at hSw); obtain ⟨S0, S1⟩ := hSw; obtain ⟨l0S, c0S0, c0S1, c0S2, _⟩ := S0.open3; obtain ⟨l1S, c1S0, c1S1, c1S2, _⟩ := S1.open3; clear S0 S1; go_simp; (try with_reducible rfl))
    try simp only [Act.put, List.setIfInBounds_toArray, List.set_cons_zero, List.set_cons_succ]
    refine readyL (rs := [2]) (by kernel_rfl) (by simp) ?_
    refine AllReadyL.cons (o := ?_) ?_ (fun K hK => ?_) AllReadyL.none_
    rotate_left
    · (simp only [List.getElem?_toArray, List.getElem?_cons_succ, List.getElem?_cons_zero]; rfl)
    go_simp
    go_at_call 8
    ((with_reducible refine (toImage_any _ _ _ _ _ zs0 _ (arg0.out.below bbw44.out) L0.out hsm0).mono ?_))
    rintro e w45 ⟨Aw45, kw45, rfl, Ow45, hbw45⟩
    have Pw45 := Lib.hid Ow45
    clear Ow45
    have bbw45 := Lib.hid (later bbw44.out hbw45)
    have hzw45 := hbw45.size
    have Va0w45 := Lib.hid (Va0w44.out.step hbw45)
    have Va1w45 := Lib.hid (Va1w44.out.step hbw45)
    have Va2w45 := Lib.hid (Va2w44.out.step hbw45)
    have Vww45 := Lib.hid (Vww44.out.step hbw45)
    have Vxw45 := Lib.hid (Vxw44.out.step hbw45)
    have Vyw45 := Lib.hid (Vyw44.out.step hbw45)
    have Vzw45 := Lib.hid (Vzw44.out.step hbw45)
    have Vgw45 := Lib.hid (Vgw44.out.step hbw45)
    have Iww45 : Hid _ := Lib.hid (Iww44.out.step hbw45)
    have Ixw45 : Hid _ := Lib.hid (Ixw44.out.step hbw45)
    have Iyw45 : Hid _ := Lib.hid (Iyw44.out.step hbw45)
    have Izw45 : Hid _ := Lib.hid (Izw44.out.step hbw45)
    have Igw45 : Hid _ := Lib.hid (Igw44.out.step hbw45)
    clear Va0w44
    clear Va1w44
    clear Va2w44
    clear Vww44
    clear Vxw44
    clear Vyw44
    clear Vzw44
    clear Vgw44
    clear Iww44
    clear Ixw44
    clear Iyw44
    clear Izw44
    clear Igw44
    obtain ⟨la0w45, ca0w45_0, ca0w45_1, ca0w45_2, fa0w45_0, fa0w45_1, fa0w45_2⟩ := Va0w45.out.open3
    obtain ⟨la1w45, ca1w45_0, ca1w45_1, ca1w45_2, fa1w45_0, fa1w45_1, fa1w45_2⟩ := Va1w45.out.open3
    obtain ⟨la2w45, ca2w45_0, fa2w45_0⟩ := Va2w45.out.open1
    obtain ⟨lww45, cww45_0, cww45_1, cww45_2, fww45_0, fww45_1, fww45_2⟩ := Vww45.out.open3
    obtain ⟨lxw45, cxw45_0, cxw45_1, cxw45_2, fxw45_0, fxw45_1, fxw45_2⟩ := Vxw45.out.open3
    obtain ⟨lyw45, cyw45_0, cyw45_1, cyw45_2, fyw45_0, fyw45_1, fyw45_2⟩ := Vyw45.out.open3
    obtain ⟨lzw45, czw45_0, fzw45_0⟩ := Vzw45.out.open1
    obtain ⟨lgw45, cgw45_0, cgw45_1, cgw45_2, fgw45_0, fgw45_1, fgw45_2⟩ := Vgw45.out.open3
    have Itw45 := Pw45
    clear Pw45
    have B9 := hbw45
    refine hK.out _ _ ?_ (fun hHeld => ?_)
    · (first | exact ⟨VB.step (hHeld.1) B9, VB.step (hHeld.2) B9⟩ | exact ⟨VB.alloc (hHeld.1) _, VB.alloc (hHeld.2) _⟩ | exact ⟨VB.drew (VB.alloc (show VB w43 _ _ from hHeld.1) _), VB.drew (VB.alloc (show VB w43 _ _ from hHeld.2) _)⟩ | exact ⟨VB.drew Vxw43.out, VB.drew Va0w43.out⟩)
    clear hK K
    try simp only [Act.put, List.setIfInBounds_toArray, List.set_cons_zero, List.set_cons_succ]
    refine readyL (rs := [3]) (by kernel_rfl) (by simp) ?_
    refine AllReadyL.cons (o := ?_) ?_ (fun K hK => ?_) AllReadyL.none_
    rotate_left
    · (simp only [List.getElem?_toArray, List.getElem?_cons_succ, List.getElem?_cons_zero]; rfl)
    go_simp
    go_at_call 11
    ((with_reducible refine (eqImage_same _ _ _ _ _ _ _ _ _ _ _ _ zs0 _ Ixw45.out Itw45.out).mono ?_))
    rintro e w46 ⟨rfl, hbw46⟩
    clear la0w45 ca0w45_0 ca0w45_1 ca0w45_2 fa0w45_0 fa0w45_1 fa0w45_2 la1w45 ca1w45_0 ca1w45_1 ca1w45_2 fa1w45_0 fa1w45_1 fa1w45_2 la2w45 ca2w45_0 fa2w45_0 lww45 cww45_0 cww45_1 cww45_2 fww45_0 fww45_1 fww45_2 lxw45 cxw45_0 cxw45_1 cxw45_2 fxw45_0 fxw45_1 fxw45_2 lyw45 cyw45_0 cyw45_1 cyw45_2 fyw45_0 fyw45_1 fyw45_2 lzw45 czw45_0 fzw45_0 lgw45 cgw45_0 cgw45_1 cgw45_2 fgw45_0 fgw45_1 fgw45_2
    have bbw46 := Lib.hid (later bbw45.out hbw46)
    have hzw46 := hbw46.size
    have Va0w46 := Lib.hid (Va0w45.out.step hbw46)
    have Va1w46 := Lib.hid (Va1w45.out.step hbw46)
    have Va2w46 := Lib.hid (Va2w45.out.step hbw46)
    have Vww46 := Lib.hid (Vww45.out.step hbw46)
    have Vxw46 := Lib.hid (Vxw45.out.step hbw46)
    have Vyw46 := Lib.hid (Vyw45.out.step hbw46)
    have Vzw46 := Lib.hid (Vzw45.out.step hbw46)
    have Vgw46 := Lib.hid (Vgw45.out.step hbw46)
    have Iww46 : Hid _ := Lib.hid (Iww45.out.step hbw46)
    have Ixw46 : Hid _ := Lib.hid (Ixw45.out.step hbw46)
    have Iyw46 : Hid _ := Lib.hid (Iyw45.out.step hbw46)
    have Izw46 : Hid _ := Lib.hid (Izw45.out.step hbw46)
    have Igw46 : Hid _ := Lib.hid (Igw45.out.step hbw46)
    have Itw46 : Hid _ := Lib.hid (Itw45.out.step hbw46)
    clear Va0w45
    clear Va1w45
    clear Va2w45
    clear Vww45
    clear Vxw45
    clear Vyw45
    clear Vzw45
    clear Vgw45
    clear Iww45
    clear Ixw45
    clear Iyw45
    clear Izw45
    clear Igw45
    clear Itw45
    obtain ⟨la0w46, ca0w46_0, ca0w46_1, ca0w46_2, fa0w46_0, fa0w46_1, fa0w46_2⟩ := Va0w46.out.open3
    obtain ⟨la1w46, ca1w46_0, ca1w46_1, ca1w46_2, fa1w46_0, fa1w46_1, fa1w46_2⟩ := Va1w46.out.open3
    obtain ⟨la2w46, ca2w46_0, fa2w46_0⟩ := Va2w46.out.open1
    obtain ⟨lww46, cww46_0, cww46_1, cww46_2, fww46_0, fww46_1, fww46_2⟩ := Vww46.out.open3
    obtain ⟨lxw46, cxw46_0, cxw46_1, cxw46_2, fxw46_0, fxw46_1, fxw46_2⟩ := Vxw46.out.open3
    obtain ⟨lyw46, cyw46_0, cyw46_1, cyw46_2, fyw46_0, fyw46_1, fyw46_2⟩ := Vyw46.out.open3
    obtain ⟨lzw46, czw46_0, fzw46_0⟩ := Vzw46.out.open1
    obtain ⟨lgw46, cgw46_0, cgw46_1, cgw46_2, fgw46_0, fgw46_1, fgw46_2⟩ := Vgw46.out.open3
    have B9 := hbw46
    refine hK.out _ _ ?_ (fun hHeld => ?_)
    · (first | exact ⟨VB.step (hHeld.1) B9, VB.step (hHeld.2) B9⟩ | exact ⟨VB.alloc (hHeld.1) _, VB.alloc (hHeld.2) _⟩ | exact ⟨VB.drew (VB.alloc (show VB w43 _ _ from hHeld.1) _), VB.drew (VB.alloc (show VB w43 _ _ from hHeld.2) _)⟩ | exact ⟨VB.drew Vxw43.out, VB.drew Va0w43.out⟩)
    clear hK K
    try simp only [Act.put, List.setIfInBounds_toArray, List.set_cons_zero, List.set_cons_succ]
    refine takeL (i := 4) (oi := ?_) (v := ?_) ?_ (by kernel_rfl) (by kernel_rfl) (by kernel_rfl) (by kernel_rfl) ?_ (Or.inl ⟨?_, ?_⟩) (by assumption) ?_
    rotate_left 2
    · (simp only [List.getElem?_toArray, List.getElem?_cons_succ, List.getElem?_cons_zero]; rfl)
    · exact fun _ _ _ h => h
    · rfl
    · (intro w hSw; (try dsimp only at hSw); obtain ⟨S0, S1⟩ := hSw; obtain ⟨l0S, c0S0, c0S1, c0S2, _⟩ := S0.open3; obtain ⟨l1S, c1S0, c1S1, c1S2, _⟩ := S1.open3; clear S0 S1; go_simp; (try with_reducible rfl))
    try simp only [Act.put, List.setIfInBounds_toArray, List.set_cons_zero, List.set_cons_succ]
    refine doneL (by kernel_rfl) ?_ _
    clear Itw46
    go_wp2_with fail
    clear la0w46 ca0w46_0 ca0w46_1 ca0w46_2 fa0w46_0 fa0w46_1 fa0w46_2 la1w46 ca1w46_0 ca1w46_1 ca1w46_2 fa1w46_0 fa1w46_1 fa1w46_2 la2w46 ca2w46_0 fa2w46_0 lww46 cww46_0 cww46_1 cww46_2 fww46_0 fww46_1 fww46_2 lxw46 cxw46_0 cxw46_1 cxw46_2 fxw46_0 fxw46_1 fxw46_2 lyw46 cyw46_0 cyw46_1 cyw46_2 fyw46_0 fyw46_1 fyw46_2 lzw46 czw46_0 fzw46_0 lgw46 cgw46_0 cgw46_1 cgw46_2 fgw46_0 fgw46_1 fgw46_2
    have bbw47 : Hid (Below w.heap.size w w46.drew) := Lib.hid (Below.drew bbw46.out)
    have hzw47 : w46.heap.size ≤ w46.drew.heap.size := Nat.le_refl _
    have Va0w47 := Lib.hid (VB.drew Va0w46.out)
    have Va1w47 := Lib.hid (VB.drew Va1w46.out)
    have Va2w47 := Lib.hid (VB.drew Va2w46.out)
    have Vww47 := Lib.hid (VB.drew Vww46.out)
    have Vxw47 := Lib.hid (VB.drew Vxw46.out)
    have Vyw47 := Lib.hid (VB.drew Vyw46.out)
    have Vzw47 := Lib.hid (VB.drew Vzw46.out)
    have Vgw47 := Lib.hid (VB.drew Vgw46.out)
    have Iww47 : Hid _ := Lib.hid (show Ints w46.drew _ _ _ _ from Iww46.out)
    have Ixw47 : Hid _ := Lib.hid (show Ints w46.drew _ _ _ _ from Ixw46.out)
    have Iyw47 : Hid _ := Lib.hid (show Ints w46.drew _ _ _ _ from Iyw46.out)
    have Izw47 : Hid _ := Lib.hid (show Recs w46.drew _ _ _ _ from Izw46.out)
    have Igw47 : Hid _ := Lib.hid (show Ints w46.drew _ _ _ _ from Igw46.out)
    refine regionL (S := (fun w' => VB w' (w37.heap.size) [.int .i64 ix1, .int .i64 iy1, .slice Aw37 zs1.length kw37] ∧ VB w' (w.heap.size + 1) [.int .i64 ix1, .int .i64 iy1, .slice A1 n1 c1])) (L := 5) (by kernel_rfl) ?_ (fun hHeld => ?_)
    · (first | exact ⟨VB.step (hHeld.1) B9, VB.step (hHeld.2) B9⟩ | exact ⟨VB.alloc (hHeld.1) _, VB.alloc (hHeld.2) _⟩ | exact ⟨VB.drew (VB.alloc (show VB w46 _ _ from hHeld.1) _), VB.drew (VB.alloc (show VB w46 _ _ from hHeld.2) _)⟩ | exact ⟨VB.drew Vyw46.out, VB.drew Va1w46.out⟩)
    refine takeL (i := 0) (oi := ?_) (v := ?_) ?_ (by kernel_rfl) (by kernel_rfl) (by kernel_rfl) (by kernel_rfl) ?_ (Or.inl ⟨?_, ?_⟩) (by assumption) ?_
    rotate_left 2
    · (simp only [List.getElem?_toArray, List.getElem?_cons_succ, List.getElem?_cons_zero]; rfl)
    · exact fun _ _ _ h => h
    · rfl
    · (intro w hSw; (try dsimp only at hSw); obtain ⟨S0, S1⟩ := hSw; obtain ⟨l0S, c0S0, c0S1, c0S2, _⟩ := S0.open3; obtain ⟨l1S, c1S0, c1S1, c1S2, _⟩ := S1.open3; clear S0 S1; go_simp; (try with_reducible rfl))
    try simp only [Act.put, List.setIfInBounds_toArray, List.set_cons_zero, List.set_cons_succ]
    refine takeL (i := 1) (oi := ?_) (v := ?_) ?_ (by kernel_rfl) (by kernel_rfl) (by kernel_rfl) (by kernel_rfl) ?_ (Or.inl ⟨?_, ?_⟩) (by assumption) ?_
    rotate_left 2
    · (simp only [List.getElem?_toArray, List.getElem?_cons_succ, List.getElem?_cons_zero]; rfl)
    · exact fun _ _ _ h => h
    · rfl
    · (intro w hSw; (try dsimp only at hSw); obtain ⟨S0, S1⟩ := hSw; obtain ⟨l0S, c0S0, c0S1, c0S2, _⟩ := S0.open3; obtain ⟨l1S, c1S0, c1S1, c1S2, _⟩ := S1.open3; clear S0 S1; go_simp; (try with_reducible rfl))
    try simp only [Act.put, List.setIfInBounds_toArray, List.set_cons_zero, List.set_cons_succ]
    refine readyL (rs := [2]) (by kernel_rfl) (by simp) ?_
    refine AllReadyL.cons (o := ?_) ?_ (fun K hK => ?_) AllReadyL.none_
    rotate_left
    · (simp only [List.getElem?_toArray, List.getElem?_cons_succ, List.getElem?_cons_zero]; rfl)
    go_simp
    go_at_call 8
    ((with_reducible refine (toImage_any _ _ _ _ _ zs1 _ (arg1.out.below bbw47.out) L1.out hsm1).mono ?_))
    rintro e w48 ⟨Aw48, kw48, rfl, Ow48, hbw48⟩
    have Pw48 := Lib.hid Ow48
    clear Ow48
    have bbw48 := Lib.hid (later bbw47.out hbw48)
    have hzw48 := hbw48.size
    have Va0w48 := Lib.hid (Va0w47.out.step hbw48)
    have Va1w48 := Lib.hid (Va1w47.out.step hbw48)
    have Va2w48 := Lib.hid (Va2w47.out.step hbw48)
    have Vww48 := Lib.hid (Vww47.out.step hbw48)
    have Vxw48 := Lib.hid (Vxw47.out.step hbw48)
    have Vyw48 := Lib.hid (Vyw47.out.step hbw48)
    have Vzw48 := Lib.hid (Vzw47.out.step hbw48)
    have Vgw48 := Lib.hid (Vgw47.out.step hbw48)
    have Iww48 : Hid _ := Lib.hid (Iww47.out.step hbw48)
    have Ixw48 : Hid _ := Lib.hid (Ixw47.out.step hbw48)
    have Iyw48 : Hid _ := Lib.hid (Iyw47.out.step hbw48)
    have Izw48 : Hid _ := Lib.hid (Izw47.out.step hbw48)
    have Igw48 : Hid _ := Lib.hid (Igw47.out.step hbw48)
    clear Va0w47
    clear Va1w47
    clear Va2w47
    clear Vww47
    clear Vxw47
    clear Vyw47
    clear Vzw47
    clear Vgw47
    clear Iww47
    clear Ixw47
    clear Iyw47
    clear Izw47
    clear Igw47
    obtain ⟨la0w48, ca0w48_0, ca0w48_1, ca0w48_2, fa0w48_0, fa0w48_1, fa0w48_2⟩ := Va0w48.out.open3
    obtain ⟨la1w48, ca1w48_0, ca1w48_1, ca1w48_2, fa1w48_0, fa1w48_1, fa1w48_2⟩ := Va1w48.out.open3
    obtain ⟨la2w48, ca2w48_0, fa2w48_0⟩ := Va2w48.out.open1
    obtain ⟨lww48, cww48_0, cww48_1, cww48_2, fww48_0, fww48_1, fww48_2⟩ := Vww48.out.open3
    obtain ⟨lxw48, cxw48_0, cxw48_1, cxw48_2, fxw48_0, fxw48_1, fxw48_2⟩ := Vxw48.out.open3
    obtain ⟨lyw48, cyw48_0, cyw48_1, cyw48_2, fyw48_0, fyw48_1, fyw48_2⟩ := Vyw48.out.open3
    obtain ⟨lzw48, czw48_0, fzw48_0⟩ := Vzw48.out.open1
    obtain ⟨lgw48, cgw48_0, cgw48_1, cgw48_2, fgw48_0, fgw48_1, fgw48_2⟩ := Vgw48.out.open3
    have Itw48 := Pw48
    clear Pw48
    have B9 := hbw48
    refine hK.out _ _ ?_ (fun hHeld => ?_)
    · (first | exact ⟨VB.step (hHeld.1) B9, VB.step (hHeld.2) B9⟩ | exact ⟨VB.alloc (hHeld.1) _, VB.alloc (hHeld.2) _⟩ | exact ⟨VB.drew (VB.alloc (show VB w46 _ _ from hHeld.1) _), VB.drew (VB.alloc (show VB w46 _ _ from hHeld.2) _)⟩ | exact ⟨VB.drew Vyw46.out, VB.drew Va1w46.out⟩)
    clear hK K
    try simp only [Act.put, List.setIfInBounds_toArray, List.set_cons_zero, List.set_cons_succ]
    refine readyL (rs := [3]) (by kernel_rfl) (by simp) ?_
    refine AllReadyL.cons (o := ?_) ?_ (fun K hK => ?_) AllReadyL.none_
    rotate_left
    · (simp only [List.getElem?_toArray, List.getElem?_cons_succ, List.getElem?_cons_zero]; rfl)
    go_simp
    go_at_call 11
    ((with_reducible refine (eqImage_same _ _ _ _ _ _ _ _ _ _ _ _ zs1 _ Iyw48.out Itw48.out).mono ?_))
    rintro e w49 ⟨rfl, hbw49⟩
    clear la0w48 ca0w48_0 ca0w48_1 ca0w48_2 fa0w48_0 fa0w48_1 fa0w48_2 la1w48 ca1w48_0 ca1w48_1 ca1w48_2 fa1w48_0 fa1w48_1 fa1w48_2 la2w48 ca2w48_0 fa2w48_0 lww48 cww48_0 cww48_1 cww48_2 fww48_0 fww48_1 fww48_2 lxw48 cxw48_0 cxw48_1 cxw48_2 fxw48_0 fxw48_1 fxw48_2 lyw48 cyw48_0 cyw48_1 cyw48_2 fyw48_0 fyw48_1 fyw48_2 lzw48 czw48_0 fzw48_0 lgw48 cgw48_0 cgw48_1 cgw48_2 fgw48_0 fgw48_1 fgw48_2
    have bbw49 := Lib.hid (later bbw48.out hbw49)
    have hzw49 := hbw49.size
    have Va0w49 := Lib.hid (Va0w48.out.step hbw49)
    have Va1w49 := Lib.hid (Va1w48.out.step hbw49)
    have Va2w49 := Lib.hid (Va2w48.out.step hbw49)
    have Vww49 := Lib.hid (Vww48.out.step hbw49)
    have Vxw49 := Lib.hid (Vxw48.out.step hbw49)
    have Vyw49 := Lib.hid (Vyw48.out.step hbw49)
    have Vzw49 := Lib.hid (Vzw48.out.step hbw49)
    have Vgw49 := Lib.hid (Vgw48.out.step hbw49)
    have Iww49 : Hid _ := Lib.hid (Iww48.out.step hbw49)
    have Ixw49 : Hid _ := Lib.hid (Ixw48.out.step hbw49)
    have Iyw49 : Hid _ := Lib.hid (Iyw48.out.step hbw49)
    have Izw49 : Hid _ := Lib.hid (Izw48.out.step hbw49)
    have Igw49 : Hid _ := Lib.hid (Igw48.out.step hbw49)
    have Itw49 : Hid _ := Lib.hid (Itw48.out.step hbw49)
    clear Va0w48
    clear Va1w48
    clear Va2w48
    clear Vww48
    clear Vxw48
    clear Vyw48
    clear Vzw48
    clear Vgw48
    clear Iww48
    clear Ixw48
    clear Iyw48
    clear Izw48
    clear Igw48
    clear Itw48
    obtain ⟨la0w49, ca0w49_0, ca0w49_1, ca0w49_2, fa0w49_0, fa0w49_1, fa0w49_2⟩ := Va0w49.out.open3
    obtain ⟨la1w49, ca1w49_0, ca1w49_1, ca1w49_2, fa1w49_0, fa1w49_1, fa1w49_2⟩ := Va1w49.out.open3
    obtain ⟨la2w49, ca2w49_0, fa2w49_0⟩ := Va2w49.out.open1
    obtain ⟨lww49, cww49_0, cww49_1, cww49_2, fww49_0, fww49_1, fww49_2⟩ := Vww49.out.open3
    obtain ⟨lxw49, cxw49_0, cxw49_1, cxw49_2, fxw49_0, fxw49_1, fxw49_2⟩ := Vxw49.out.open3
    obtain ⟨lyw49, cyw49_0, cyw49_1, cyw49_2, fyw49_0, fyw49_1, fyw49_2⟩ := Vyw49.out.open3
    obtain ⟨lzw49, czw49_0, fzw49_0⟩ := Vzw49.out.open1
    obtain ⟨lgw49, cgw49_0, cgw49_1, cgw49_2, fgw49_0, fgw49_1, fgw49_2⟩ := Vgw49.out.open3
    have B9 := hbw49
    refine hK.out _ _ ?_ (fun hHeld => ?_)
    · (first | exact ⟨VB.step (hHeld.1) B9, VB.step (hHeld.2) B9⟩ | exact ⟨VB.alloc (hHeld.1) _, VB.alloc (hHeld.2) _⟩ | exact ⟨VB.drew (VB.alloc (show VB w46 _ _ from hHeld.1) _), VB.drew (VB.alloc (show VB w46 _ _ from hHeld.2) _)⟩ | exact ⟨VB.drew Vyw46.out, VB.drew Va1w46.out⟩)
    clear hK K
    try simp only [Act.put, List.setIfInBounds_toArray, List.set_cons_zero, List.set_cons_succ]
    refine takeL (i := 4) (oi := ?_) (v := ?_) ?_ (by kernel_rfl) (by kernel_rfl) (by kernel_rfl) (by kernel_rfl) ?_ (Or.inl ⟨?_, ?_⟩) (by assumption) ?_
    rotate_left 2
    · (simp only [List.getElem?_toArray, List.getElem?_cons_succ, List.getElem?_cons_zero]; rfl)
    · exact fun _ _ _ h => h
    · rfl
    · (intro w hSw; (try dsimp only at hSw); obtain ⟨S0, S1⟩ := hSw; obtain ⟨l0S, c0S0, c0S1, c0S2, _⟩ := S0.open3; obtain ⟨l1S, c1S0, c1S1, c1S2, _⟩ := S1.open3; clear S0 S1; go_simp; (try with_reducible rfl))
    try simp only [Act.put, List.setIfInBounds_toArray, List.set_cons_zero, List.set_cons_succ]
    refine doneL (by kernel_rfl) ?_ _
    clear Itw49
    go_wp2_with fail
    clear la0w49 ca0w49_0 ca0w49_1 ca0w49_2 fa0w49_0 fa0w49_1 fa0w49_2 la1w49 ca1w49_0 ca1w49_1 ca1w49_2 fa1w49_0 fa1w49_1 fa1w49_2 la2w49 ca2w49_0 fa2w49_0 lww49 cww49_0 cww49_1 cww49_2 fww49_0 fww49_1 fww49_2 lxw49 cxw49_0 cxw49_1 cxw49_2 fxw49_0 fxw49_1 fxw49_2 lyw49 cyw49_0 cyw49_1 cyw49_2 fyw49_0 fyw49_1 fyw49_2 lzw49 czw49_0 fzw49_0 lgw49 cgw49_0 cgw49_1 cgw49_2 fgw49_0 fgw49_1 fgw49_2
    have bbw50 : Hid (Below w.heap.size w w49.drew) := Lib.hid (Below.drew bbw49.out)
    have hzw50 : w49.heap.size ≤ w49.drew.heap.size := Nat.le_refl _
    have Va0w50 := Lib.hid (VB.drew Va0w49.out)
    have Va1w50 := Lib.hid (VB.drew Va1w49.out)
    have Va2w50 := Lib.hid (VB.drew Va2w49.out)
    have Vww50 := Lib.hid (VB.drew Vww49.out)
    have Vxw50 := Lib.hid (VB.drew Vxw49.out)
    have Vyw50 := Lib.hid (VB.drew Vyw49.out)
    have Vzw50 := Lib.hid (VB.drew Vzw49.out)
    have Vgw50 := Lib.hid (VB.drew Vgw49.out)
    have Iww50 : Hid _ := Lib.hid (show Ints w49.drew _ _ _ _ from Iww49.out)
    have Ixw50 : Hid _ := Lib.hid (show Ints w49.drew _ _ _ _ from Ixw49.out)
    have Iyw50 : Hid _ := Lib.hid (show Ints w49.drew _ _ _ _ from Iyw49.out)
    have Izw50 : Hid _ := Lib.hid (show Recs w49.drew _ _ _ _ from Izw49.out)
    have Igw50 : Hid _ := Lib.hid (show Ints w49.drew _ _ _ _ from Igw49.out)
    refine regionL (S := (fun w' => VB w' (w39.heap.size) [.slice Aw39 zs2.length kw39] ∧ VB w' (w.heap.size + 1 + 1) [.slice A2 n2 c2])) (L := 5) (by kernel_rfl) ?_ (fun hHeld => ?_)
    · (first | exact ⟨VB.step (hHeld.1) B9, VB.step (hHeld.2) B9⟩ | exact ⟨VB.alloc (hHeld.1) _, VB.alloc (hHeld.2) _⟩ | exact ⟨VB.drew (VB.alloc (show VB w49 _ _ from hHeld.1) _), VB.drew (VB.alloc (show VB w49 _ _ from hHeld.2) _)⟩ | exact ⟨VB.drew Vzw49.out, VB.drew Va2w49.out⟩)
    refine takeL (i := 0) (oi := ?_) (v := ?_) ?_ (by kernel_rfl) (by kernel_rfl) (by kernel_rfl) (by kernel_rfl) ?_ (Or.inl ⟨?_, ?_⟩) (by assumption) ?_
    rotate_left 2
    · (simp only [List.getElem?_toArray, List.getElem?_cons_succ, List.getElem?_cons_zero]; rfl)
    · exact fun _ _ _ h => h
    · rfl
    · (intro w hSw; (try dsimp only at hSw); obtain ⟨S0, S1⟩ := hSw; obtain ⟨l0S, c0S0, _⟩ := S0.open1; obtain ⟨l1S, c1S0, _⟩ := S1.open1; clear S0 S1; go_simp; (try with_reducible rfl))
    try simp only [Act.put, List.setIfInBounds_toArray, List.set_cons_zero, List.set_cons_succ]
    refine takeL (i := 1) (oi := ?_) (v := ?_) ?_ (by kernel_rfl) (by kernel_rfl) (by kernel_rfl) (by kernel_rfl) ?_ (Or.inl ⟨?_, ?_⟩) (by assumption) ?_
    rotate_left 2
    · (simp only [List.getElem?_toArray, List.getElem?_cons_succ, List.getElem?_cons_zero]; rfl)
    · exact fun _ _ _ h => h
    · rfl
    · (intro w hSw; (try dsimp only at hSw); obtain ⟨S0, S1⟩ := hSw; obtain ⟨l0S, c0S0, _⟩ := S0.open1; obtain ⟨l1S, c1S0, _⟩ := S1.open1; clear S0 S1; go_simp; (try with_reducible rfl))
    try simp only [Act.put, List.setIfInBounds_toArray, List.set_cons_zero, List.set_cons_succ]
    refine readyL (rs := [2]) (by kernel_rfl) (by simp) ?_
    refine AllReadyL.cons (o := ?_) ?_ (fun K hK => ?_) AllReadyL.none_
    rotate_left
    · (simp only [List.getElem?_toArray, List.getElem?_cons_succ, List.getElem?_cons_zero]; rfl)
    go_simp
    go_at_call 17
    ((with_reducible refine (toRegion_any _ _ _ zs2 _ (arg2.out.below bbw50.out) L2.out hsm2).mono ?_))
    rintro e w51 ⟨Aw51, kw51, rfl, Ow51, hbw51⟩
    have Pw51 := Lib.hid Ow51
    clear Ow51
    have bbw51 := Lib.hid (later bbw50.out hbw51)
    have hzw51 := hbw51.size
    have Va0w51 := Lib.hid (Va0w50.out.step hbw51)
    have Va1w51 := Lib.hid (Va1w50.out.step hbw51)
    have Va2w51 := Lib.hid (Va2w50.out.step hbw51)
    have Vww51 := Lib.hid (Vww50.out.step hbw51)
    have Vxw51 := Lib.hid (Vxw50.out.step hbw51)
    have Vyw51 := Lib.hid (Vyw50.out.step hbw51)
    have Vzw51 := Lib.hid (Vzw50.out.step hbw51)
    have Vgw51 := Lib.hid (Vgw50.out.step hbw51)
    have Iww51 : Hid _ := Lib.hid (Iww50.out.step hbw51)
    have Ixw51 : Hid _ := Lib.hid (Ixw50.out.step hbw51)
    have Iyw51 : Hid _ := Lib.hid (Iyw50.out.step hbw51)
    have Izw51 : Hid _ := Lib.hid (Izw50.out.step hbw51)
    have Igw51 : Hid _ := Lib.hid (Igw50.out.step hbw51)
    clear Va0w50
    clear Va1w50
    clear Va2w50
    clear Vww50
    clear Vxw50
    clear Vyw50
    clear Vzw50
    clear Vgw50
    clear Iww50
    clear Ixw50
    clear Iyw50
    clear Izw50
    clear Igw50
    obtain ⟨la0w51, ca0w51_0, ca0w51_1, ca0w51_2, fa0w51_0, fa0w51_1, fa0w51_2⟩ := Va0w51.out.open3
    obtain ⟨la1w51, ca1w51_0, ca1w51_1, ca1w51_2, fa1w51_0, fa1w51_1, fa1w51_2⟩ := Va1w51.out.open3
    obtain ⟨la2w51, ca2w51_0, fa2w51_0⟩ := Va2w51.out.open1
    obtain ⟨lww51, cww51_0, cww51_1, cww51_2, fww51_0, fww51_1, fww51_2⟩ := Vww51.out.open3
    obtain ⟨lxw51, cxw51_0, cxw51_1, cxw51_2, fxw51_0, fxw51_1, fxw51_2⟩ := Vxw51.out.open3
    obtain ⟨lyw51, cyw51_0, cyw51_1, cyw51_2, fyw51_0, fyw51_1, fyw51_2⟩ := Vyw51.out.open3
    obtain ⟨lzw51, czw51_0, fzw51_0⟩ := Vzw51.out.open1
    obtain ⟨lgw51, cgw51_0, cgw51_1, cgw51_2, fgw51_0, fgw51_1, fgw51_2⟩ := Vgw51.out.open3
    have Itw51 := Pw51
    clear Pw51
    have B9 := hbw51
    refine hK.out _ _ ?_ (fun hHeld => ?_)
    · (first | exact ⟨VB.step (hHeld.1) B9, VB.step (hHeld.2) B9⟩ | exact ⟨VB.alloc (hHeld.1) _, VB.alloc (hHeld.2) _⟩ | exact ⟨VB.drew (VB.alloc (show VB w49 _ _ from hHeld.1) _), VB.drew (VB.alloc (show VB w49 _ _ from hHeld.2) _)⟩ | exact ⟨VB.drew Vzw49.out, VB.drew Va2w49.out⟩)
    clear hK K
    try simp only [Act.put, List.setIfInBounds_toArray, List.set_cons_zero, List.set_cons_succ]
    refine readyL (rs := [3]) (by kernel_rfl) (by simp) ?_
    refine AllReadyL.cons (o := ?_) ?_ (fun K hK => ?_) AllReadyL.none_
    rotate_left
    · (simp only [List.getElem?_toArray, List.getElem?_cons_succ, List.getElem?_cons_zero]; rfl)
    go_simp
    go_at_call 10
    ((with_reducible refine (eqRegion_same _ _ _ _ _ _ zs2 _ (Recs.arg Izw51.out) (Recs.arg Itw51.out) rfl rfl (by omega) (by omega)).mono ?_))
    rintro e w52 ⟨rfl, hbw52⟩
    clear la0w51 ca0w51_0 ca0w51_1 ca0w51_2 fa0w51_0 fa0w51_1 fa0w51_2 la1w51 ca1w51_0 ca1w51_1 ca1w51_2 fa1w51_0 fa1w51_1 fa1w51_2 la2w51 ca2w51_0 fa2w51_0 lww51 cww51_0 cww51_1 cww51_2 fww51_0 fww51_1 fww51_2 lxw51 cxw51_0 cxw51_1 cxw51_2 fxw51_0 fxw51_1 fxw51_2 lyw51 cyw51_0 cyw51_1 cyw51_2 fyw51_0 fyw51_1 fyw51_2 lzw51 czw51_0 fzw51_0 lgw51 cgw51_0 cgw51_1 cgw51_2 fgw51_0 fgw51_1 fgw51_2
    have bbw52 := Lib.hid (later bbw51.out hbw52)
    have hzw52 := hbw52.size
    have Va0w52 := Lib.hid (Va0w51.out.step hbw52)
    have Va1w52 := Lib.hid (Va1w51.out.step hbw52)
    have Va2w52 := Lib.hid (Va2w51.out.step hbw52)
    have Vww52 := Lib.hid (Vww51.out.step hbw52)
    have Vxw52 := Lib.hid (Vxw51.out.step hbw52)
    have Vyw52 := Lib.hid (Vyw51.out.step hbw52)
    have Vzw52 := Lib.hid (Vzw51.out.step hbw52)
    have Vgw52 := Lib.hid (Vgw51.out.step hbw52)
    have Iww52 : Hid _ := Lib.hid (Iww51.out.step hbw52)
    have Ixw52 : Hid _ := Lib.hid (Ixw51.out.step hbw52)
    have Iyw52 : Hid _ := Lib.hid (Iyw51.out.step hbw52)
    have Izw52 : Hid _ := Lib.hid (Izw51.out.step hbw52)
    have Igw52 : Hid _ := Lib.hid (Igw51.out.step hbw52)
    have Itw52 : Hid _ := Lib.hid (Itw51.out.step hbw52)
    clear Va0w51
    clear Va1w51
    clear Va2w51
    clear Vww51
    clear Vxw51
    clear Vyw51
    clear Vzw51
    clear Vgw51
    clear Iww51
    clear Ixw51
    clear Iyw51
    clear Izw51
    clear Igw51
    clear Itw51
    obtain ⟨la0w52, ca0w52_0, ca0w52_1, ca0w52_2, fa0w52_0, fa0w52_1, fa0w52_2⟩ := Va0w52.out.open3
    obtain ⟨la1w52, ca1w52_0, ca1w52_1, ca1w52_2, fa1w52_0, fa1w52_1, fa1w52_2⟩ := Va1w52.out.open3
    obtain ⟨la2w52, ca2w52_0, fa2w52_0⟩ := Va2w52.out.open1
    obtain ⟨lww52, cww52_0, cww52_1, cww52_2, fww52_0, fww52_1, fww52_2⟩ := Vww52.out.open3
    obtain ⟨lxw52, cxw52_0, cxw52_1, cxw52_2, fxw52_0, fxw52_1, fxw52_2⟩ := Vxw52.out.open3
    obtain ⟨lyw52, cyw52_0, cyw52_1, cyw52_2, fyw52_0, fyw52_1, fyw52_2⟩ := Vyw52.out.open3
    obtain ⟨lzw52, czw52_0, fzw52_0⟩ := Vzw52.out.open1
    obtain ⟨lgw52, cgw52_0, cgw52_1, cgw52_2, fgw52_0, fgw52_1, fgw52_2⟩ := Vgw52.out.open3
    have B9 := hbw52
    refine hK.out _ _ ?_ (fun hHeld => ?_)
    · (first | exact ⟨VB.step (hHeld.1) B9, VB.step (hHeld.2) B9⟩ | exact ⟨VB.alloc (hHeld.1) _, VB.alloc (hHeld.2) _⟩ | exact ⟨VB.drew (VB.alloc (show VB w49 _ _ from hHeld.1) _), VB.drew (VB.alloc (show VB w49 _ _ from hHeld.2) _)⟩ | exact ⟨VB.drew Vzw49.out, VB.drew Va2w49.out⟩)
    clear hK K
    try simp only [Act.put, List.setIfInBounds_toArray, List.set_cons_zero, List.set_cons_succ]
    refine takeL (i := 4) (oi := ?_) (v := ?_) ?_ (by kernel_rfl) (by kernel_rfl) (by kernel_rfl) (by kernel_rfl) ?_ (Or.inl ⟨?_, ?_⟩) (by assumption) ?_
    rotate_left 2
    · (simp only [List.getElem?_toArray, List.getElem?_cons_succ, List.getElem?_cons_zero]; rfl)
    · exact fun _ _ _ h => h
    · rfl
    · (intro w hSw; (try dsimp only at hSw); obtain ⟨S0, S1⟩ := hSw; obtain ⟨l0S, c0S0, _⟩ := S0.open1; obtain ⟨l1S, c1S0, _⟩ := S1.open1; clear S0 S1; go_simp; (try with_reducible rfl))
    try simp only [Act.put, List.setIfInBounds_toArray, List.set_cons_zero, List.set_cons_succ]
    refine doneL (by kernel_rfl) ?_ _
    clear Itw52
    go_wp2_with fail
    refine (markImage_any _ _ _ _ _ _ _ zs0 1 _ Ixw52.out (by omega) (by omega)).mono ?_
    rintro e w53 ⟨rfl, Ow53, how53⟩
    clear la0w52 ca0w52_0 ca0w52_1 ca0w52_2 fa0w52_0 fa0w52_1 fa0w52_2 la1w52 ca1w52_0 ca1w52_1 ca1w52_2 fa1w52_0 fa1w52_1 fa1w52_2 la2w52 ca2w52_0 fa2w52_0 lww52 cww52_0 cww52_1 cww52_2 fww52_0 fww52_1 fww52_2 lxw52 cxw52_0 cxw52_1 cxw52_2 fxw52_0 fxw52_1 fxw52_2 lyw52 cyw52_0 cyw52_1 cyw52_2 fyw52_0 fyw52_1 fyw52_2 lzw52 czw52_0 fzw52_0 lgw52 cgw52_0 cgw52_1 cgw52_2 fgw52_0 fgw52_1 fgw52_2
    have bbw53 := Lib.hid (below_out bbw52.out how53 (by first | omega | (have := bbw52.out.size; omega)) bbw52.out.size)
    have hzw53 := how53.size
    have Va0w53 := Lib.hid (Va0w52.out.out how53 (by omega))
    have Va1w53 := Lib.hid (Va1w52.out.out how53 (by omega))
    have Va2w53 := Lib.hid (Va2w52.out.out how53 (by omega))
    have Vww53 := Lib.hid (Vww52.out.out how53 (by omega))
    have Vxw53 := Lib.hid (Vxw52.out.out how53 (by omega))
    have Vyw53 := Lib.hid (Vyw52.out.out how53 (by omega))
    have Vzw53 := Lib.hid (Vzw52.out.out how53 (by omega))
    have Vgw53 := Lib.hid (Vgw52.out.out how53 (by omega))
    have Iww53 : Hid _ := Lib.hid (Iww52.out.out how53 (by omega))
    have Iyw53 : Hid _ := Lib.hid (Iyw52.out.out how53 (by omega))
    have Izw53 : Hid _ := Lib.hid (Izw52.out.out how53 (by omega))
    have Igw53 : Hid _ := Lib.hid (Igw52.out.out how53 (by omega))
    have Ixw53 := Lib.hid Ow53
    clear Ow53
    clear Va0w52
    clear Va1w52
    clear Va2w52
    clear Vww52
    clear Vxw52
    clear Vyw52
    clear Vzw52
    clear Vgw52
    clear Iww52
    clear Ixw52
    clear Iyw52
    clear Izw52
    clear Igw52
    obtain ⟨la0w53, ca0w53_0, ca0w53_1, ca0w53_2, fa0w53_0, fa0w53_1, fa0w53_2⟩ := Va0w53.out.open3
    obtain ⟨la1w53, ca1w53_0, ca1w53_1, ca1w53_2, fa1w53_0, fa1w53_1, fa1w53_2⟩ := Va1w53.out.open3
    obtain ⟨la2w53, ca2w53_0, fa2w53_0⟩ := Va2w53.out.open1
    obtain ⟨lww53, cww53_0, cww53_1, cww53_2, fww53_0, fww53_1, fww53_2⟩ := Vww53.out.open3
    obtain ⟨lxw53, cxw53_0, cxw53_1, cxw53_2, fxw53_0, fxw53_1, fxw53_2⟩ := Vxw53.out.open3
    obtain ⟨lyw53, cyw53_0, cyw53_1, cyw53_2, fyw53_0, fyw53_1, fyw53_2⟩ := Vyw53.out.open3
    obtain ⟨lzw53, czw53_0, fzw53_0⟩ := Vzw53.out.open1
    obtain ⟨lgw53, cgw53_0, cgw53_1, cgw53_2, fgw53_0, fgw53_1, fgw53_2⟩ := Vgw53.out.open3
    go_wp2_with fail
    refine (markImage_any _ _ _ _ _ _ _ zs1 (1 + (zs0.length : Int)) _ Iyw53.out (by omega) (by omega)).mono ?_
    rintro e w54 ⟨rfl, Ow54, how54⟩
    clear la0w53 ca0w53_0 ca0w53_1 ca0w53_2 fa0w53_0 fa0w53_1 fa0w53_2 la1w53 ca1w53_0 ca1w53_1 ca1w53_2 fa1w53_0 fa1w53_1 fa1w53_2 la2w53 ca2w53_0 fa2w53_0 lww53 cww53_0 cww53_1 cww53_2 fww53_0 fww53_1 fww53_2 lxw53 cxw53_0 cxw53_1 cxw53_2 fxw53_0 fxw53_1 fxw53_2 lyw53 cyw53_0 cyw53_1 cyw53_2 fyw53_0 fyw53_1 fyw53_2 lzw53 czw53_0 fzw53_0 lgw53 cgw53_0 cgw53_1 cgw53_2 fgw53_0 fgw53_1 fgw53_2
    have bbw54 := Lib.hid (below_out bbw53.out how54 (by first | omega | (have := bbw53.out.size; omega)) bbw53.out.size)
    have hzw54 := how54.size
    have Va0w54 := Lib.hid (Va0w53.out.out how54 (by omega))
    have Va1w54 := Lib.hid (Va1w53.out.out how54 (by omega))
    have Va2w54 := Lib.hid (Va2w53.out.out how54 (by omega))
    have Vww54 := Lib.hid (Vww53.out.out how54 (by omega))
    have Vxw54 := Lib.hid (Vxw53.out.out how54 (by omega))
    have Vyw54 := Lib.hid (Vyw53.out.out how54 (by omega))
    have Vzw54 := Lib.hid (Vzw53.out.out how54 (by omega))
    have Vgw54 := Lib.hid (Vgw53.out.out how54 (by omega))
    have Iww54 : Hid _ := Lib.hid (Iww53.out.out how54 (by omega))
    have Ixw54 : Hid _ := Lib.hid (Ixw53.out.out how54 (by omega))
    have Izw54 : Hid _ := Lib.hid (Izw53.out.out how54 (by omega))
    have Igw54 : Hid _ := Lib.hid (Igw53.out.out how54 (by omega))
    have Iyw54 := Lib.hid Ow54
    clear Ow54
    clear Va0w53
    clear Va1w53
    clear Va2w53
    clear Vww53
    clear Vxw53
    clear Vyw53
    clear Vzw53
    clear Vgw53
    clear Iww53
    clear Ixw53
    clear Iyw53
    clear Izw53
    clear Igw53
    obtain ⟨la0w54, ca0w54_0, ca0w54_1, ca0w54_2, fa0w54_0, fa0w54_1, fa0w54_2⟩ := Va0w54.out.open3
    obtain ⟨la1w54, ca1w54_0, ca1w54_1, ca1w54_2, fa1w54_0, fa1w54_1, fa1w54_2⟩ := Va1w54.out.open3
    obtain ⟨la2w54, ca2w54_0, fa2w54_0⟩ := Va2w54.out.open1
    obtain ⟨lww54, cww54_0, cww54_1, cww54_2, fww54_0, fww54_1, fww54_2⟩ := Vww54.out.open3
    obtain ⟨lxw54, cxw54_0, cxw54_1, cxw54_2, fxw54_0, fxw54_1, fxw54_2⟩ := Vxw54.out.open3
    obtain ⟨lyw54, cyw54_0, cyw54_1, cyw54_2, fyw54_0, fyw54_1, fyw54_2⟩ := Vyw54.out.open3
    obtain ⟨lzw54, czw54_0, fzw54_0⟩ := Vzw54.out.open1
    obtain ⟨lgw54, cgw54_0, cgw54_1, cgw54_2, fgw54_0, fgw54_1, fgw54_2⟩ := Vgw54.out.open3
    go_wp2_with fail
    refine (markRegion_any _ _ _ _ _ zs2 (1 + (zs0.length : Int) + (zs1.length : Int)) _ Izw54.out (by omega) (by omega)).mono ?_
    rintro e w55 ⟨rfl, Ow55, how55⟩
    clear la0w54 ca0w54_0 ca0w54_1 ca0w54_2 fa0w54_0 fa0w54_1 fa0w54_2 la1w54 ca1w54_0 ca1w54_1 ca1w54_2 fa1w54_0 fa1w54_1 fa1w54_2 la2w54 ca2w54_0 fa2w54_0 lww54 cww54_0 cww54_1 cww54_2 fww54_0 fww54_1 fww54_2 lxw54 cxw54_0 cxw54_1 cxw54_2 fxw54_0 fxw54_1 fxw54_2 lyw54 cyw54_0 cyw54_1 cyw54_2 fyw54_0 fyw54_1 fyw54_2 lzw54 czw54_0 fzw54_0 lgw54 cgw54_0 cgw54_1 cgw54_2 fgw54_0 fgw54_1 fgw54_2
    have bbw55 := Lib.hid (below_out bbw54.out how55 (by first | omega | (have := bbw54.out.size; omega)) bbw54.out.size)
    have hzw55 := how55.size
    have Va0w55 := Lib.hid (Va0w54.out.out how55 (by omega))
    have Va1w55 := Lib.hid (Va1w54.out.out how55 (by omega))
    have Va2w55 := Lib.hid (Va2w54.out.out how55 (by omega))
    have Vww55 := Lib.hid (Vww54.out.out how55 (by omega))
    have Vxw55 := Lib.hid (Vxw54.out.out how55 (by omega))
    have Vyw55 := Lib.hid (Vyw54.out.out how55 (by omega))
    have Vzw55 := Lib.hid (Vzw54.out.out how55 (by omega))
    have Vgw55 := Lib.hid (Vgw54.out.out how55 (by omega))
    have Iww55 : Hid _ := Lib.hid (Iww54.out.out how55 (by omega))
    have Ixw55 : Hid _ := Lib.hid (Ixw54.out.out how55 (by omega))
    have Iyw55 : Hid _ := Lib.hid (Iyw54.out.out how55 (by omega))
    have Igw55 : Hid _ := Lib.hid (Igw54.out.out how55 (by omega))
    have Izw55 := Lib.hid Ow55
    clear Ow55
    clear Va0w54
    clear Va1w54
    clear Va2w54
    clear Vww54
    clear Vxw54
    clear Vyw54
    clear Vzw54
    clear Vgw54
    clear Iww54
    clear Ixw54
    clear Iyw54
    clear Izw54
    clear Igw54
    obtain ⟨la0w55, ca0w55_0, ca0w55_1, ca0w55_2, fa0w55_0, fa0w55_1, fa0w55_2⟩ := Va0w55.out.open3
    obtain ⟨la1w55, ca1w55_0, ca1w55_1, ca1w55_2, fa1w55_0, fa1w55_1, fa1w55_2⟩ := Va1w55.out.open3
    obtain ⟨la2w55, ca2w55_0, fa2w55_0⟩ := Va2w55.out.open1
    obtain ⟨lww55, cww55_0, cww55_1, cww55_2, fww55_0, fww55_1, fww55_2⟩ := Vww55.out.open3
    obtain ⟨lxw55, cxw55_0, cxw55_1, cxw55_2, fxw55_0, fxw55_1, fxw55_2⟩ := Vxw55.out.open3
    obtain ⟨lyw55, cyw55_0, cyw55_1, cyw55_2, fyw55_0, fyw55_1, fyw55_2⟩ := Vyw55.out.open3
    obtain ⟨lzw55, czw55_0, fzw55_0⟩ := Vzw55.out.open1
    obtain ⟨lgw55, cgw55_0, cgw55_1, cgw55_2, fgw55_0, fgw55_1, fgw55_2⟩ := Vgw55.out.open3
    go_wp2_with fail
    refine (eqImage_same (Pl.copyRegion ⟨ix0, iy0, zs0⟩ ⟨ix1, iy1, zs1⟩ zs2).w (Pl.copyRegion ⟨ix0, iy0, zs0⟩ ⟨ix1, iy1, zs1⟩ zs2).h _ _ _ _ _ _ _ _ _ _ (Pl.copyRegion ⟨ix0, iy0, zs0⟩ ⟨ix1, iy1, zs1⟩ zs2).d _ Igw55.out Iww55.out).mono ?_
    rintro e w56 ⟨rfl, hbw56⟩
    clear la0w55 ca0w55_0 ca0w55_1 ca0w55_2 fa0w55_0 fa0w55_1 fa0w55_2 la1w55 ca1w55_0 ca1w55_1 ca1w55_2 fa1w55_0 fa1w55_1 fa1w55_2 la2w55 ca2w55_0 fa2w55_0 lww55 cww55_0 cww55_1 cww55_2 fww55_0 fww55_1 fww55_2 lxw55 cxw55_0 cxw55_1 cxw55_2 fxw55_0 fxw55_1 fxw55_2 lyw55 cyw55_0 cyw55_1 cyw55_2 fyw55_0 fyw55_1 fyw55_2 lzw55 czw55_0 fzw55_0 lgw55 cgw55_0 cgw55_1 cgw55_2 fgw55_0 fgw55_1 fgw55_2
    have bbw56 := Lib.hid (later bbw55.out hbw56)
    have hzw56 := hbw56.size
    have Va0w56 := Lib.hid (Va0w55.out.step hbw56)
    have Va1w56 := Lib.hid (Va1w55.out.step hbw56)
    have Va2w56 := Lib.hid (Va2w55.out.step hbw56)
    have Vww56 := Lib.hid (Vww55.out.step hbw56)
    have Vxw56 := Lib.hid (Vxw55.out.step hbw56)
    have Vyw56 := Lib.hid (Vyw55.out.step hbw56)
    have Vzw56 := Lib.hid (Vzw55.out.step hbw56)
    have Vgw56 := Lib.hid (Vgw55.out.step hbw56)
    have Iww56 : Hid _ := Lib.hid (Iww55.out.step hbw56)
    have Ixw56 : Hid _ := Lib.hid (Ixw55.out.step hbw56)
    have Iyw56 : Hid _ := Lib.hid (Iyw55.out.step hbw56)
    have Izw56 : Hid _ := Lib.hid (Izw55.out.step hbw56)
    have Igw56 : Hid _ := Lib.hid (Igw55.out.step hbw56)
    clear Va0w55
    clear Va1w55
    clear Va2w55
    clear Vww55
    clear Vxw55
    clear Vyw55
    clear Vzw55
    clear Vgw55
    clear Iww55
    clear Ixw55
    clear Iyw55
    clear Izw55
    clear Igw55
    obtain ⟨la0w56, ca0w56_0, ca0w56_1, ca0w56_2, fa0w56_0, fa0w56_1, fa0w56_2⟩ := Va0w56.out.open3
    obtain ⟨la1w56, ca1w56_0, ca1w56_1, ca1w56_2, fa1w56_0, fa1w56_1, fa1w56_2⟩ := Va1w56.out.open3
    obtain ⟨la2w56, ca2w56_0, fa2w56_0⟩ := Va2w56.out.open1
    obtain ⟨lww56, cww56_0, cww56_1, cww56_2, fww56_0, fww56_1, fww56_2⟩ := Vww56.out.open3
    obtain ⟨lxw56, cxw56_0, cxw56_1, cxw56_2, fxw56_0, fxw56_1, fxw56_2⟩ := Vxw56.out.open3
    obtain ⟨lyw56, cyw56_0, cyw56_1, cyw56_2, fyw56_0, fyw56_1, fyw56_2⟩ := Vyw56.out.open3
    obtain ⟨lzw56, czw56_0, fzw56_0⟩ := Vzw56.out.open1
    obtain ⟨lgw56, cgw56_0, cgw56_1, cgw56_2, fgw56_0, fgw56_1, fgw56_2⟩ := Vgw56.out.open3
    go_wp2_with fail
    refine (markImage_any _ _ _ _ _ _ _ (Pl.copyRegion ⟨ix0, iy0, zs0⟩ ⟨ix1, iy1, zs1⟩ zs2).d 1 _ Igw56.out (by omega) (by omega)).mono ?_
    rintro e w57 ⟨rfl, Ow57, how57⟩
    clear la0w56 ca0w56_0 ca0w56_1 ca0w56_2 fa0w56_0 fa0w56_1 fa0w56_2 la1w56 ca1w56_0 ca1w56_1 ca1w56_2 fa1w56_0 fa1w56_1 fa1w56_2 la2w56 ca2w56_0 fa2w56_0 lww56 cww56_0 cww56_1 cww56_2 fww56_0 fww56_1 fww56_2 lxw56 cxw56_0 cxw56_1 cxw56_2 fxw56_0 fxw56_1 fxw56_2 lyw56 cyw56_0 cyw56_1 cyw56_2 fyw56_0 fyw56_1 fyw56_2 lzw56 czw56_0 fzw56_0 lgw56 cgw56_0 cgw56_1 cgw56_2 fgw56_0 fgw56_1 fgw56_2
    have bbw57 := Lib.hid (below_out bbw56.out how57 (by first | omega | (have := bbw56.out.size; omega)) bbw56.out.size)
    have hzw57 := how57.size
    have Va0w57 := Lib.hid (Va0w56.out.out how57 (by omega))
    have Va1w57 := Lib.hid (Va1w56.out.out how57 (by omega))
    have Va2w57 := Lib.hid (Va2w56.out.out how57 (by omega))
    have Vww57 := Lib.hid (Vww56.out.out how57 (by omega))
    have Vxw57 := Lib.hid (Vxw56.out.out how57 (by omega))
    have Vyw57 := Lib.hid (Vyw56.out.out how57 (by omega))
    have Vzw57 := Lib.hid (Vzw56.out.out how57 (by omega))
    have Vgw57 := Lib.hid (Vgw56.out.out how57 (by omega))
    have Iww57 : Hid _ := Lib.hid (Iww56.out.out how57 (by omega))
    have Ixw57 : Hid _ := Lib.hid (Ixw56.out.out how57 (by omega))
    have Iyw57 : Hid _ := Lib.hid (Iyw56.out.out how57 (by omega))
    have Izw57 : Hid _ := Lib.hid (Izw56.out.out how57 (by omega))
    have Igw57 := Lib.hid Ow57
    clear Ow57
    clear Va0w56
    clear Va1w56
    clear Va2w56
    clear Vww56
    clear Vxw56
    clear Vyw56
    clear Vzw56
    clear Vgw56
    clear Iww56
    clear Ixw56
    clear Iyw56
    clear Izw56
    clear Igw56
    obtain ⟨la0w57, ca0w57_0, ca0w57_1, ca0w57_2, fa0w57_0, fa0w57_1, fa0w57_2⟩ := Va0w57.out.open3
    obtain ⟨la1w57, ca1w57_0, ca1w57_1, ca1w57_2, fa1w57_0, fa1w57_1, fa1w57_2⟩ := Va1w57.out.open3
    obtain ⟨la2w57, ca2w57_0, fa2w57_0⟩ := Va2w57.out.open1
    obtain ⟨lww57, cww57_0, cww57_1, cww57_2, fww57_0, fww57_1, fww57_2⟩ := Vww57.out.open3
    obtain ⟨lxw57, cxw57_0, cxw57_1, cxw57_2, fxw57_0, fxw57_1, fxw57_2⟩ := Vxw57.out.open3
    obtain ⟨lyw57, cyw57_0, cyw57_1, cyw57_2, fyw57_0, fyw57_1, fyw57_2⟩ := Vyw57.out.open3
    obtain ⟨lzw57, czw57_0, fzw57_0⟩ := Vzw57.out.open1
    obtain ⟨lgw57, cgw57_0, cgw57_1, cgw57_2, fgw57_0, fgw57_1, fgw57_2⟩ := Vgw57.out.open3
    go_wp2_with fail
    refine (heldImage_same _ _ _ _ _ _ _ 1 _ Igw57.out (by omega) (by omega)).mono ?_
    rintro e w58 ⟨rfl, hbw58⟩
    clear la0w57 ca0w57_0 ca0w57_1 ca0w57_2 fa0w57_0 fa0w57_1 fa0w57_2 la1w57 ca1w57_0 ca1w57_1 ca1w57_2 fa1w57_0 fa1w57_1 fa1w57_2 la2w57 ca2w57_0 fa2w57_0 lww57 cww57_0 cww57_1 cww57_2 fww57_0 fww57_1 fww57_2 lxw57 cxw57_0 cxw57_1 cxw57_2 fxw57_0 fxw57_1 fxw57_2 lyw57 cyw57_0 cyw57_1 cyw57_2 fyw57_0 fyw57_1 fyw57_2 lzw57 czw57_0 fzw57_0 lgw57 cgw57_0 cgw57_1 cgw57_2 fgw57_0 fgw57_1 fgw57_2
    have bbw58 := Lib.hid (later bbw57.out hbw58)
    have hzw58 := hbw58.size
    have Va0w58 := Lib.hid (Va0w57.out.step hbw58)
    have Va1w58 := Lib.hid (Va1w57.out.step hbw58)
    have Va2w58 := Lib.hid (Va2w57.out.step hbw58)
    have Vww58 := Lib.hid (Vww57.out.step hbw58)
    have Vxw58 := Lib.hid (Vxw57.out.step hbw58)
    have Vyw58 := Lib.hid (Vyw57.out.step hbw58)
    have Vzw58 := Lib.hid (Vzw57.out.step hbw58)
    have Vgw58 := Lib.hid (Vgw57.out.step hbw58)
    have Iww58 : Hid _ := Lib.hid (Iww57.out.step hbw58)
    have Ixw58 : Hid _ := Lib.hid (Ixw57.out.step hbw58)
    have Iyw58 : Hid _ := Lib.hid (Iyw57.out.step hbw58)
    have Izw58 : Hid _ := Lib.hid (Izw57.out.step hbw58)
    have Igw58 : Hid _ := Lib.hid (Igw57.out.step hbw58)
    clear Va0w57
    clear Va1w57
    clear Va2w57
    clear Vww57
    clear Vxw57
    clear Vyw57
    clear Vzw57
    clear Vgw57
    clear Iww57
    clear Ixw57
    clear Iyw57
    clear Izw57
    clear Igw57
    obtain ⟨la0w58, ca0w58_0, ca0w58_1, ca0w58_2, fa0w58_0, fa0w58_1, fa0w58_2⟩ := Va0w58.out.open3
    obtain ⟨la1w58, ca1w58_0, ca1w58_1, ca1w58_2, fa1w58_0, fa1w58_1, fa1w58_2⟩ := Va1w58.out.open3
    obtain ⟨la2w58, ca2w58_0, fa2w58_0⟩ := Va2w58.out.open1
    obtain ⟨lww58, cww58_0, cww58_1, cww58_2, fww58_0, fww58_1, fww58_2⟩ := Vww58.out.open3
    obtain ⟨lxw58, cxw58_0, cxw58_1, cxw58_2, fxw58_0, fxw58_1, fxw58_2⟩ := Vxw58.out.open3
    obtain ⟨lyw58, cyw58_0, cyw58_1, cyw58_2, fyw58_0, fyw58_1, fyw58_2⟩ := Vyw58.out.open3
    obtain ⟨lzw58, czw58_0, fzw58_0⟩ := Vzw58.out.open1
    obtain ⟨lgw58, cgw58_0, cgw58_1, cgw58_2, fgw58_0, fgw58_1, fgw58_2⟩ := Vgw58.out.open3
    go_wp2_with fail
    go_cut [16] (fun s16 wx => ∃ b : Nat, s16 = .pointer (some ⟨b, 0, none⟩) ∧ NewVarI w58 wx b (Pl.copyRegion ⟨ix0, iy0, zs0⟩ ⟨ix1, iy1, zs1⟩ zs2).w (Pl.copyRegion ⟨ix0, iy0, zs0⟩ ⟨ix1, iy1, zs1⟩ zs2).h (Pl.copyRegion ⟨ix0, iy0, zs0⟩ ⟨ix1, iy1, zs1⟩ zs2).d)
    case first =>
      clear Iww58
      clear Ixw58
      clear Iyw58
      clear Izw58
      clear Igw58
      clear la0w58 ca0w58_0 ca0w58_1 ca0w58_2 fa0w58_0 fa0w58_1 fa0w58_2 la1w58 ca1w58_0 ca1w58_1 ca1w58_2 fa1w58_0 fa1w58_1 fa1w58_2 la2w58 ca2w58_0 fa2w58_0 lww58 cww58_0 cww58_1 cww58_2 fww58_0 fww58_1 fww58_2 lxw58 cxw58_0 cxw58_1 cxw58_2 fxw58_0 fxw58_1 fxw58_2 lyw58 cyw58_0 cyw58_1 cyw58_2 fyw58_0 fyw58_1 fyw58_2 lzw58 czw58_0 fzw58_0 lgw58 cgw58_0 cgw58_1 cgw58_2 fgw58_0 fgw58_1 fgw58_2
      have bbw59 : Hid (Below w.heap.size w w58.drew) := Lib.hid (Below.drew bbw58.out)
      have bjw59 : Hid (Below w58.heap.size w58 w58.drew) := Lib.hid (Below.drew (Below.refl _ _))
      have hzw59 : w58.heap.size ≤ w58.drew.heap.size := Nat.le_refl _
      have Va0w59 := Lib.hid (VB.drew Va0w58.out)
      have Va1w59 := Lib.hid (VB.drew Va1w58.out)
      have Va2w59 := Lib.hid (VB.drew Va2w58.out)
      have Vww59 := Lib.hid (VB.drew Vww58.out)
      have Vxw59 := Lib.hid (VB.drew Vxw58.out)
      have Vyw59 := Lib.hid (VB.drew Vyw58.out)
      have Vzw59 := Lib.hid (VB.drew Vzw58.out)
      have Vgw59 := Lib.hid (VB.drew Vgw58.out)
      refine regionL (S := (fun w' => VB w' (w.heap.size) [.int .i64 ix0, .int .i64 iy0, .slice A0 n0 c0] ∧ VB w' (w.heap.size + 1) [.int .i64 ix1, .int .i64 iy1, .slice A1 n1 c1] ∧ VB w' (w.heap.size + 1 + 1) [.slice A2 n2 c2])) (L := 8) (by kernel_rfl) ?_ (fun hHeld => ?_)
      · (first | exact ⟨VB.step (hHeld.1) B9, VB.step (hHeld.2.1) B9, VB.step (hHeld.2.2) B9⟩ | exact ⟨VB.drew Va0w58.out, VB.drew Va1w58.out, VB.drew Va2w58.out⟩)
      refine takeL (i := 0) (oi := ?_) (v := ?_) ?_ (by kernel_rfl) (by kernel_rfl) (by kernel_rfl) (by kernel_rfl) ?_ (Or.inl ⟨?_, ?_⟩) (by assumption) ?_
      rotate_left 2
      · (simp only [List.getElem?_toArray, List.getElem?_cons_succ, List.getElem?_cons_zero]; rfl)
      · exact fun _ _ _ h => h
      · rfl
      · (intro w hSw; (try dsimp only at hSw); obtain ⟨S0, S1, S2⟩ := hSw; obtain ⟨l0S, c0S0, c0S1, c0S2, _⟩ := S0.open3; obtain ⟨l1S, c1S0, c1S1, c1S2, _⟩ := S1.open3; obtain ⟨l2S, c2S0, _⟩ := S2.open1; clear S0 S1 S2; go_simp; (try with_reducible rfl))
      try simp only [Act.put, List.setIfInBounds_toArray, List.set_cons_zero, List.set_cons_succ]
      refine takeL (i := 2) (oi := ?_) (v := ?_) ?_ (by kernel_rfl) (by kernel_rfl) (by kernel_rfl) (by kernel_rfl) ?_ (Or.inl ⟨?_, ?_⟩) (by assumption) ?_
      rotate_left 2
      · (simp only [List.getElem?_toArray, List.getElem?_cons_succ, List.getElem?_cons_zero]; rfl)
      · exact fun _ _ _ h => h
      · rfl
      · (intro w hSw; (try dsimp only at hSw); obtain ⟨S0, S1, S2⟩ := hSw; obtain ⟨l0S, c0S0, c0S1, c0S2, _⟩ := S0.open3; obtain ⟨l1S, c1S0, c1S1, c1S2, _⟩ := S1.open3; obtain ⟨l2S, c2S0, _⟩ := S2.open1; clear S0 S1 S2; go_simp; (try with_reducible rfl))
      try simp only [Act.put, List.setIfInBounds_toArray, List.set_cons_zero, List.set_cons_succ]
      refine takeL (i := 4) (oi := ?_) (v := ?_) ?_ (by kernel_rfl) (by kernel_rfl) (by kernel_rfl) (by kernel_rfl) ?_ (Or.inl ⟨?_, ?_⟩) (by assumption) ?_
      rotate_left 2
      · (simp only [List.getElem?_toArray, List.getElem?_cons_succ, List.getElem?_cons_zero]; rfl)
      · exact fun _ _ _ h => h
      · rfl
      · (intro w hSw; (try dsimp only at hSw); obtain ⟨S0, S1, S2⟩ := hSw; obtain ⟨l0S, c0S0, c0S1, c0S2, _⟩ := S0.open3; obtain ⟨l1S, c1S0, c1S1, c1S2, _⟩ := S1.open3; obtain ⟨l2S, c2S0, _⟩ := S2.open1; clear S0 S1 S2; go_simp; (try with_reducible rfl))
      try simp only [Act.put, List.setIfInBounds_toArray, List.set_cons_zero, List.set_cons_succ]
      refine readyL (rs := [1, 7]) (by kernel_rfl) (by simp) ?_
      refine AllReadyL.cons (o := ?_) ?_ (fun K hK => ?_) ?_
      rotate_left
      · (simp only [List.getElem?_toArray, List.getElem?_cons_succ, List.getElem?_cons_zero]; rfl)
      · go_simp
        go_at_call 8
        ((with_reducible refine (toImage_any _ _ _ _ _ zs0 _ (arg0.out.below bbw59.out) L0.out hsm0).mono ?_))
        rintro e w60 ⟨Aw60, kw60, rfl, Ow60, hbw60⟩
        have Pw60 := Lib.hid Ow60
        clear Ow60
        have bbw60 := Lib.hid (later bbw59.out hbw60)
        have hzw60 := hbw60.size
        have Va0w60 := Lib.hid (Va0w59.out.step hbw60)
        have Va1w60 := Lib.hid (Va1w59.out.step hbw60)
        have Va2w60 := Lib.hid (Va2w59.out.step hbw60)
        have Vww60 := Lib.hid (Vww59.out.step hbw60)
        have Vxw60 := Lib.hid (Vxw59.out.step hbw60)
        have Vyw60 := Lib.hid (Vyw59.out.step hbw60)
        have Vzw60 := Lib.hid (Vzw59.out.step hbw60)
        have Vgw60 := Lib.hid (Vgw59.out.step hbw60)
        clear Va0w59
        clear Va1w59
        clear Va2w59
        clear Vww59
        clear Vxw59
        clear Vyw59
        clear Vzw59
        clear Vgw59
        obtain ⟨la0w60, ca0w60_0, ca0w60_1, ca0w60_2, fa0w60_0, fa0w60_1, fa0w60_2⟩ := Va0w60.out.open3
        obtain ⟨la1w60, ca1w60_0, ca1w60_1, ca1w60_2, fa1w60_0, fa1w60_1, fa1w60_2⟩ := Va1w60.out.open3
        obtain ⟨la2w60, ca2w60_0, fa2w60_0⟩ := Va2w60.out.open1
        obtain ⟨lww60, cww60_0, cww60_1, cww60_2, fww60_0, fww60_1, fww60_2⟩ := Vww60.out.open3
        obtain ⟨lxw60, cxw60_0, cxw60_1, cxw60_2, fxw60_0, fxw60_1, fxw60_2⟩ := Vxw60.out.open3
        obtain ⟨lyw60, cyw60_0, cyw60_1, cyw60_2, fyw60_0, fyw60_1, fyw60_2⟩ := Vyw60.out.open3
        obtain ⟨lzw60, czw60_0, fzw60_0⟩ := Vzw60.out.open1
        obtain ⟨lgw60, cgw60_0, cgw60_1, cgw60_2, fgw60_0, fgw60_1, fgw60_2⟩ := Vgw60.out.open3
        have Isw60 := Pw60
        clear Pw60
        have bjw60 := Lib.hid (later bjw59.out hbw60)
        have B9 := hbw60
        refine hK.out _ _ ?_ (fun hHeld => ?_)
        · (first | exact ⟨VB.step (hHeld.1) B9, VB.step (hHeld.2.1) B9, VB.step (hHeld.2.2) B9⟩ | exact ⟨VB.drew Va0w58.out, VB.drew Va1w58.out, VB.drew Va2w58.out⟩)
        clear hK K
        try simp only [Act.put, List.setIfInBounds_toArray, List.set_cons_zero, List.set_cons_succ]
        refine readyL (rs := [3, 7]) (by kernel_rfl) (by simp) ?_
        refine AllReadyL.cons (o := ?_) ?_ (fun K hK => ?_) ?_
        rotate_left
        · (simp only [List.getElem?_toArray, List.getElem?_cons_succ, List.getElem?_cons_zero]; rfl)
        · go_simp
          go_at_call 8
          ((with_reducible refine (toImage_any _ _ _ _ _ zs1 _ (arg1.out.below bbw60.out) L1.out hsm1).mono ?_))
          rintro e w61 ⟨Aw61, kw61, rfl, Ow61, hbw61⟩
          have Pw61 := Lib.hid Ow61
          clear Ow61
          clear la0w60 ca0w60_0 ca0w60_1 ca0w60_2 fa0w60_0 fa0w60_1 fa0w60_2 la1w60 ca1w60_0 ca1w60_1 ca1w60_2 fa1w60_0 fa1w60_1 fa1w60_2 la2w60 ca2w60_0 fa2w60_0 lww60 cww60_0 cww60_1 cww60_2 fww60_0 fww60_1 fww60_2 lxw60 cxw60_0 cxw60_1 cxw60_2 fxw60_0 fxw60_1 fxw60_2 lyw60 cyw60_0 cyw60_1 cyw60_2 fyw60_0 fyw60_1 fyw60_2 lzw60 czw60_0 fzw60_0 lgw60 cgw60_0 cgw60_1 cgw60_2 fgw60_0 fgw60_1 fgw60_2
          have bbw61 := Lib.hid (later bbw60.out hbw61)
          have hzw61 := hbw61.size
          have Va0w61 := Lib.hid (Va0w60.out.step hbw61)
          have Va1w61 := Lib.hid (Va1w60.out.step hbw61)
          have Va2w61 := Lib.hid (Va2w60.out.step hbw61)
          have Vww61 := Lib.hid (Vww60.out.step hbw61)
          have Vxw61 := Lib.hid (Vxw60.out.step hbw61)
          have Vyw61 := Lib.hid (Vyw60.out.step hbw61)
          have Vzw61 := Lib.hid (Vzw60.out.step hbw61)
          have Vgw61 := Lib.hid (Vgw60.out.step hbw61)
          have Isw61 : Hid _ := Lib.hid (Isw60.out.step hbw61)
          clear Va0w60
          clear Va1w60
          clear Va2w60
          clear Vww60
          clear Vxw60
          clear Vyw60
          clear Vzw60
          clear Vgw60
          clear Isw60
          obtain ⟨la0w61, ca0w61_0, ca0w61_1, ca0w61_2, fa0w61_0, fa0w61_1, fa0w61_2⟩ := Va0w61.out.open3
          obtain ⟨la1w61, ca1w61_0, ca1w61_1, ca1w61_2, fa1w61_0, fa1w61_1, fa1w61_2⟩ := Va1w61.out.open3
          obtain ⟨la2w61, ca2w61_0, fa2w61_0⟩ := Va2w61.out.open1
          obtain ⟨lww61, cww61_0, cww61_1, cww61_2, fww61_0, fww61_1, fww61_2⟩ := Vww61.out.open3
          obtain ⟨lxw61, cxw61_0, cxw61_1, cxw61_2, fxw61_0, fxw61_1, fxw61_2⟩ := Vxw61.out.open3
          obtain ⟨lyw61, cyw61_0, cyw61_1, cyw61_2, fyw61_0, fyw61_1, fyw61_2⟩ := Vyw61.out.open3
          obtain ⟨lzw61, czw61_0, fzw61_0⟩ := Vzw61.out.open1
          obtain ⟨lgw61, cgw61_0, cgw61_1, cgw61_2, fgw61_0, fgw61_1, fgw61_2⟩ := Vgw61.out.open3
          have Itw61 := Pw61
          clear Pw61
          have bjw61 := Lib.hid (later bjw60.out hbw61)
          have B9 := hbw61
          refine hK.out _ _ ?_ (fun hHeld => ?_)
          · (first | exact ⟨VB.step (hHeld.1) B9, VB.step (hHeld.2.1) B9, VB.step (hHeld.2.2) B9⟩ | exact ⟨VB.drew Va0w58.out, VB.drew Va1w58.out, VB.drew Va2w58.out⟩)
          clear hK K
          try simp only [Act.put, List.setIfInBounds_toArray, List.set_cons_zero, List.set_cons_succ]
          refine readyL (rs := [5, 7]) (by kernel_rfl) (by simp) ?_
          refine AllReadyL.cons (o := ?_) ?_ (fun K hK => ?_) ?_
          rotate_left
          · (simp only [List.getElem?_toArray, List.getElem?_cons_succ, List.getElem?_cons_zero]; rfl)
          · go_simp
            go_at_call 17
            ((with_reducible refine (toRegion_any _ _ _ zs2 _ (arg2.out.below bbw61.out) L2.out hsm2).mono ?_))
            rintro e w62 ⟨Aw62, kw62, rfl, Ow62, hbw62⟩
            have Pw62 := Lib.hid Ow62
            clear Ow62
            clear la0w61 ca0w61_0 ca0w61_1 ca0w61_2 fa0w61_0 fa0w61_1 fa0w61_2 la1w61 ca1w61_0 ca1w61_1 ca1w61_2 fa1w61_0 fa1w61_1 fa1w61_2 la2w61 ca2w61_0 fa2w61_0 lww61 cww61_0 cww61_1 cww61_2 fww61_0 fww61_1 fww61_2 lxw61 cxw61_0 cxw61_1 cxw61_2 fxw61_0 fxw61_1 fxw61_2 lyw61 cyw61_0 cyw61_1 cyw61_2 fyw61_0 fyw61_1 fyw61_2 lzw61 czw61_0 fzw61_0 lgw61 cgw61_0 cgw61_1 cgw61_2 fgw61_0 fgw61_1 fgw61_2
            have bbw62 := Lib.hid (later bbw61.out hbw62)
            have hzw62 := hbw62.size
            have Va0w62 := Lib.hid (Va0w61.out.step hbw62)
            have Va1w62 := Lib.hid (Va1w61.out.step hbw62)
            have Va2w62 := Lib.hid (Va2w61.out.step hbw62)
            have Vww62 := Lib.hid (Vww61.out.step hbw62)
            have Vxw62 := Lib.hid (Vxw61.out.step hbw62)
            have Vyw62 := Lib.hid (Vyw61.out.step hbw62)
            have Vzw62 := Lib.hid (Vzw61.out.step hbw62)
            have Vgw62 := Lib.hid (Vgw61.out.step hbw62)
            have Isw62 : Hid _ := Lib.hid (Isw61.out.step hbw62)
            have Itw62 : Hid _ := Lib.hid (Itw61.out.step hbw62)
            clear Va0w61
            clear Va1w61
            clear Va2w61
            clear Vww61
            clear Vxw61
            clear Vyw61
            clear Vzw61
            clear Vgw61
            clear Isw61
            clear Itw61
            obtain ⟨la0w62, ca0w62_0, ca0w62_1, ca0w62_2, fa0w62_0, fa0w62_1, fa0w62_2⟩ := Va0w62.out.open3
            obtain ⟨la1w62, ca1w62_0, ca1w62_1, ca1w62_2, fa1w62_0, fa1w62_1, fa1w62_2⟩ := Va1w62.out.open3
            obtain ⟨la2w62, ca2w62_0, fa2w62_0⟩ := Va2w62.out.open1
            obtain ⟨lww62, cww62_0, cww62_1, cww62_2, fww62_0, fww62_1, fww62_2⟩ := Vww62.out.open3
            obtain ⟨lxw62, cxw62_0, cxw62_1, cxw62_2, fxw62_0, fxw62_1, fxw62_2⟩ := Vxw62.out.open3
            obtain ⟨lyw62, cyw62_0, cyw62_1, cyw62_2, fyw62_0, fyw62_1, fyw62_2⟩ := Vyw62.out.open3
            obtain ⟨lzw62, czw62_0, fzw62_0⟩ := Vzw62.out.open1
            obtain ⟨lgw62, cgw62_0, cgw62_1, cgw62_2, fgw62_0, fgw62_1, fgw62_2⟩ := Vgw62.out.open3
            have Irw62 := Pw62
            clear Pw62
            have bjw62 := Lib.hid (later bjw61.out hbw62)
            have B9 := hbw62
            refine hK.out _ _ ?_ (fun hHeld => ?_)
            · (first | exact ⟨VB.step (hHeld.1) B9, VB.step (hHeld.2.1) B9, VB.step (hHeld.2.2) B9⟩ | exact ⟨VB.drew Va0w58.out, VB.drew Va1w58.out, VB.drew Va2w58.out⟩)
            clear hK K
            try simp only [Act.put, List.setIfInBounds_toArray, List.set_cons_zero, List.set_cons_succ]
            refine readyL (rs := [6, 7]) (by kernel_rfl) (by simp) ?_
            refine AllReadyL.cons (o := ?_) ?_ (fun K hK => ?_) ?_
            rotate_left
            · (simp only [List.getElem?_toArray, List.getElem?_cons_succ, List.getElem?_cons_zero]; rfl)
            · go_simp
              go_at_call 18
              ((with_reducible refine (implCopyRegion ix0 iy0 ix1 iy1 _ _ _ _ _ _ _ _ _ _ _ _ _ zs0 zs1 zs2 _ Isw62.out Itw62.out (Recs.arg Irw62.out) rfl hN0 (by omega)).mono ?_))
              rintro e w63 ⟨Aw63, kw63, rfl, Ow63, hbw63⟩
              have Pw63 := Lib.hid Ow63
              clear Ow63
              clear la0w62 ca0w62_0 ca0w62_1 ca0w62_2 fa0w62_0 fa0w62_1 fa0w62_2 la1w62 ca1w62_0 ca1w62_1 ca1w62_2 fa1w62_0 fa1w62_1 fa1w62_2 la2w62 ca2w62_0 fa2w62_0 lww62 cww62_0 cww62_1 cww62_2 fww62_0 fww62_1 fww62_2 lxw62 cxw62_0 cxw62_1 cxw62_2 fxw62_0 fxw62_1 fxw62_2 lyw62 cyw62_0 cyw62_1 cyw62_2 fyw62_0 fyw62_1 fyw62_2 lzw62 czw62_0 fzw62_0 lgw62 cgw62_0 cgw62_1 cgw62_2 fgw62_0 fgw62_1 fgw62_2
              have bbw63 := Lib.hid (later bbw62.out hbw63)
              have hzw63 := hbw63.size
              have Va0w63 := Lib.hid (Va0w62.out.step hbw63)
              have Va1w63 := Lib.hid (Va1w62.out.step hbw63)
              have Va2w63 := Lib.hid (Va2w62.out.step hbw63)
              have Vww63 := Lib.hid (Vww62.out.step hbw63)
              have Vxw63 := Lib.hid (Vxw62.out.step hbw63)
              have Vyw63 := Lib.hid (Vyw62.out.step hbw63)
              have Vzw63 := Lib.hid (Vzw62.out.step hbw63)
              have Vgw63 := Lib.hid (Vgw62.out.step hbw63)
              have Isw63 : Hid _ := Lib.hid (Isw62.out.step hbw63)
              have Itw63 : Hid _ := Lib.hid (Itw62.out.step hbw63)
              have Irw63 : Hid _ := Lib.hid (Irw62.out.step hbw63)
              clear Va0w62
              clear Va1w62
              clear Va2w62
              clear Vww62
              clear Vxw62
              clear Vyw62
              clear Vzw62
              clear Vgw62
              clear Isw62
              clear Itw62
              clear Irw62
              obtain ⟨la0w63, ca0w63_0, ca0w63_1, ca0w63_2, fa0w63_0, fa0w63_1, fa0w63_2⟩ := Va0w63.out.open3
              obtain ⟨la1w63, ca1w63_0, ca1w63_1, ca1w63_2, fa1w63_0, fa1w63_1, fa1w63_2⟩ := Va1w63.out.open3
              obtain ⟨la2w63, ca2w63_0, fa2w63_0⟩ := Va2w63.out.open1
              obtain ⟨lww63, cww63_0, cww63_1, cww63_2, fww63_0, fww63_1, fww63_2⟩ := Vww63.out.open3
              obtain ⟨lxw63, cxw63_0, cxw63_1, cxw63_2, fxw63_0, fxw63_1, fxw63_2⟩ := Vxw63.out.open3
              obtain ⟨lyw63, cyw63_0, cyw63_1, cyw63_2, fyw63_0, fyw63_1, fyw63_2⟩ := Vyw63.out.open3
              obtain ⟨lzw63, czw63_0, fzw63_0⟩ := Vzw63.out.open1
              obtain ⟨lgw63, cgw63_0, cgw63_1, cgw63_2, fgw63_0, fgw63_1, fgw63_2⟩ := Vgw63.out.open3
              have Ih'w63 := Pw63
              clear Pw63
              have bjw63 := Lib.hid (later bjw62.out hbw63)
              have B9 := hbw63
              refine hK.out _ _ ?_ (fun hHeld => ?_)
              · (first | exact ⟨VB.step (hHeld.1) B9, VB.step (hHeld.2.1) B9, VB.step (hHeld.2.2) B9⟩ | exact ⟨VB.drew Va0w58.out, VB.drew Va1w58.out, VB.drew Va2w58.out⟩)
              clear hK K
              try simp only [Act.put, List.setIfInBounds_toArray, List.set_cons_zero, List.set_cons_succ]
              refine readyL (rs := [7]) (by kernel_rfl) (by simp) ?_
              refine AllReadyL.cons (o := ?_) ?_ (fun K hK => ?_) AllReadyL.none_
              rotate_left
              · (simp only [List.getElem?_toArray, List.getElem?_cons_succ, List.getElem?_cons_zero]; rfl)
              go_simp
              have hbw64 : Below (w63).heap.size (w63) (w63.alloc (.cells #[.int .i64 0, .int .i64 0, .slice none 0 0] 30 (0, 0))) := by first | exact (Below.refl _ _).alloc (Nat.le_refl _) _ | exact (show Below (w58.drew).heap.size w58.drew (w58.drew.alloc (.cells #[.int .i64 0, .int .i64 0, .slice none 0 0] 30 (0, 0))) from (Below.refl _ _).alloc (Nat.le_refl _) _)
              have haw64 : w58.heap.size ≤ w63.heap.size := bjw63.out.size
              have hyw64 : (w63).heap.size < (w63.alloc (.cells #[.int .i64 0, .int .i64 0, .slice none 0 0] 30 (0, 0))).heap.size := by simp
              have Zw64 : Hid (VB (w63.alloc (.cells #[.int .i64 0, .int .i64 0, .slice none 0 0] 30 (0, 0))) (w63.heap.size) [.int .i64 0, .int .i64 0, .slice none 0 0]) := Lib.hid (by first | exact VB.new (cs := [.int .i64 0, .int .i64 0, .slice none 0 0]) rfl | exact VB.drew (VB.new (cs := [.int .i64 0, .int .i64 0, .slice none 0 0]) rfl))
              generalize (w63.alloc (.cells #[.int .i64 0, .int .i64 0, .slice none 0 0] 30 (0, 0))) = w64 at *
              clear la0w63 ca0w63_0 ca0w63_1 ca0w63_2 fa0w63_0 fa0w63_1 fa0w63_2 la1w63 ca1w63_0 ca1w63_1 ca1w63_2 fa1w63_0 fa1w63_1 fa1w63_2 la2w63 ca2w63_0 fa2w63_0 lww63 cww63_0 cww63_1 cww63_2 fww63_0 fww63_1 fww63_2 lxw63 cxw63_0 cxw63_1 cxw63_2 fxw63_0 fxw63_1 fxw63_2 lyw63 cyw63_0 cyw63_1 cyw63_2 fyw63_0 fyw63_1 fyw63_2 lzw63 czw63_0 fzw63_0 lgw63 cgw63_0 cgw63_1 cgw63_2 fgw63_0 fgw63_1 fgw63_2
              have bbw64 := Lib.hid (later bbw63.out hbw64)
              have hzw64 := hbw64.size
              have Va0w64 := Lib.hid (Va0w63.out.step hbw64)
              have Va1w64 := Lib.hid (Va1w63.out.step hbw64)
              have Va2w64 := Lib.hid (Va2w63.out.step hbw64)
              have Vww64 := Lib.hid (Vww63.out.step hbw64)
              have Vxw64 := Lib.hid (Vxw63.out.step hbw64)
              have Vyw64 := Lib.hid (Vyw63.out.step hbw64)
              have Vzw64 := Lib.hid (Vzw63.out.step hbw64)
              have Vgw64 := Lib.hid (Vgw63.out.step hbw64)
              have Isw64 : Hid _ := Lib.hid (Isw63.out.step hbw64)
              have Itw64 : Hid _ := Lib.hid (Itw63.out.step hbw64)
              have Irw64 : Hid _ := Lib.hid (Irw63.out.step hbw64)
              have Ih'w64 : Hid _ := Lib.hid (Ih'w63.out.step hbw64)
              clear Va0w63
              clear Va1w63
              clear Va2w63
              clear Vww63
              clear Vxw63
              clear Vyw63
              clear Vzw63
              clear Vgw63
              clear Isw63
              clear Itw63
              clear Irw63
              clear Ih'w63
              obtain ⟨la0w64, ca0w64_0, ca0w64_1, ca0w64_2, fa0w64_0, fa0w64_1, fa0w64_2⟩ := Va0w64.out.open3
              obtain ⟨la1w64, ca1w64_0, ca1w64_1, ca1w64_2, fa1w64_0, fa1w64_1, fa1w64_2⟩ := Va1w64.out.open3
              obtain ⟨la2w64, ca2w64_0, fa2w64_0⟩ := Va2w64.out.open1
              obtain ⟨lww64, cww64_0, cww64_1, cww64_2, fww64_0, fww64_1, fww64_2⟩ := Vww64.out.open3
              obtain ⟨lxw64, cxw64_0, cxw64_1, cxw64_2, fxw64_0, fxw64_1, fxw64_2⟩ := Vxw64.out.open3
              obtain ⟨lyw64, cyw64_0, cyw64_1, cyw64_2, fyw64_0, fyw64_1, fyw64_2⟩ := Vyw64.out.open3
              obtain ⟨lzw64, czw64_0, fzw64_0⟩ := Vzw64.out.open1
              obtain ⟨lgw64, cgw64_0, cgw64_1, cgw64_2, fgw64_0, fgw64_1, fgw64_2⟩ := Vgw64.out.open3
              have bjw64 := Lib.hid (later bjw63.out hbw64)
              clear la0w64 ca0w64_0 ca0w64_1 ca0w64_2 fa0w64_0 fa0w64_1 fa0w64_2 la1w64 ca1w64_0 ca1w64_1 ca1w64_2 fa1w64_0 fa1w64_1 fa1w64_2 la2w64 ca2w64_0 fa2w64_0 lww64 cww64_0 cww64_1 cww64_2 fww64_0 fww64_1 fww64_2 lxw64 cxw64_0 cxw64_1 cxw64_2 fxw64_0 fxw64_1 fxw64_2 lyw64 cyw64_0 cyw64_1 cyw64_2 fyw64_0 fyw64_1 fyw64_2 lzw64 czw64_0 fzw64_0 lgw64 cgw64_0 cgw64_1 cgw64_2 fgw64_0 fgw64_1 fgw64_2
              have Vhw64 := Zw64
              obtain ⟨la0w64, ca0w64_0, ca0w64_1, ca0w64_2, fa0w64_0, fa0w64_1, fa0w64_2⟩ := Va0w64.out.open3
              obtain ⟨la1w64, ca1w64_0, ca1w64_1, ca1w64_2, fa1w64_0, fa1w64_1, fa1w64_2⟩ := Va1w64.out.open3
              obtain ⟨la2w64, ca2w64_0, fa2w64_0⟩ := Va2w64.out.open1
              obtain ⟨lww64, cww64_0, cww64_1, cww64_2, fww64_0, fww64_1, fww64_2⟩ := Vww64.out.open3
              obtain ⟨lxw64, cxw64_0, cxw64_1, cxw64_2, fxw64_0, fxw64_1, fxw64_2⟩ := Vxw64.out.open3
              obtain ⟨lyw64, cyw64_0, cyw64_1, cyw64_2, fyw64_0, fyw64_1, fyw64_2⟩ := Vyw64.out.open3
              obtain ⟨lzw64, czw64_0, fzw64_0⟩ := Vzw64.out.open1
              obtain ⟨lgw64, cgw64_0, cgw64_1, cgw64_2, fgw64_0, fgw64_1, fgw64_2⟩ := Vgw64.out.open3
              obtain ⟨lhw64, chw64_0, chw64_1, chw64_2, fhw64_0, fhw64_1, fhw64_2⟩ := Vhw64.out.open3
              have B9 := hbw64
              refine hK.out _ _ ?_ (fun hHeld => ?_)
              · (first | exact ⟨VB.step (hHeld.1) B9, VB.step (hHeld.2.1) B9, VB.step (hHeld.2.2) B9⟩ | exact ⟨VB.drew Va0w58.out, VB.drew Va1w58.out, VB.drew Va2w58.out⟩)
              clear hK K
              try simp only [Act.put, List.setIfInBounds_toArray, List.set_cons_zero, List.set_cons_succ]
              refine readyL (rs := [8]) (by kernel_rfl) (by simp) ?_
              refine AllReadyL.last (o := ?_) ?_ (fun K hK => ?_)
              rotate_left
              · (simp only [List.getElem?_toArray, List.getElem?_cons_succ, List.getElem?_cons_zero]; rfl)
              go_simp
              refine hK.out _ _ ?_
              clear hK K
              try simp only [Act.put, List.setIfInBounds_toArray, List.set_cons_zero, List.set_cons_succ]
              refine doneL (by kernel_rfl) ?_ _
              go_wp2_with fail
              go_meet
              have e1 : w58.heap.size ≤ w62.heap.size := bjw62.out.size
              have e2 : w63.heap.size ≤ w64.heap.size := Ih'w64.out.hi_le
              case rel => exact ⟨w63.heap.size, rfl, Aw63, kw63, w62.heap.size, w63.heap.size, by omega, e1, Nat.le_trans e2 (Nat.le_of_eq (by simp [World.setCell])), by omega, ((Vhw64.out.set 0 _).set 1 _).set 2 _, Ints.setc3 Ih'w64.out (b := w63.heap.size) (by omega) _ _ _, ((bjw64.out.setCell (by show w58.heap.size ≤ w63.heap.size; omega) _).setCell (by show w58.heap.size ≤ w63.heap.size; omega) _).setCell (by show w58.heap.size ≤ w63.heap.size; omega) _⟩
            refine AllReadyL.cons (o := ?_) ?_ (fun K hK => ?_) ?_
            rotate_left
            · (simp only [List.getElem?_toArray, List.getElem?_cons_succ, List.getElem?_cons_zero]; rfl)
            · go_simp
              have hbw65 : Below (w62).heap.size (w62) (w62.alloc (.cells #[.int .i64 0, .int .i64 0, .slice none 0 0] 30 (0, 0))) := by first | exact (Below.refl _ _).alloc (Nat.le_refl _) _ | exact (show Below (w58.drew).heap.size w58.drew (w58.drew.alloc (.cells #[.int .i64 0, .int .i64 0, .slice none 0 0] 30 (0, 0))) from (Below.refl _ _).alloc (Nat.le_refl _) _)
              have haw65 : w58.heap.size ≤ w62.heap.size := bjw62.out.size
              have hyw65 : (w62).heap.size < (w62.alloc (.cells #[.int .i64 0, .int .i64 0, .slice none 0 0] 30 (0, 0))).heap.size := by simp
              have Zw65 : Hid (VB (w62.alloc (.cells #[.int .i64 0, .int .i64 0, .slice none 0 0] 30 (0, 0))) (w62.heap.size) [.int .i64 0, .int .i64 0, .slice none 0 0]) := Lib.hid (by first | exact VB.new (cs := [.int .i64 0, .int .i64 0, .slice none 0 0]) rfl | exact VB.drew (VB.new (cs := [.int .i64 0, .int .i64 0, .slice none 0 0]) rfl))
              generalize (w62.alloc (.cells #[.int .i64 0, .int .i64 0, .slice none 0 0] 30 (0, 0))) = w65 at *
              clear la0w62 ca0w62_0 ca0w62_1 ca0w62_2 fa0w62_0 fa0w62_1 fa0w62_2 la1w62 ca1w62_0 ca1w62_1 ca1w62_2 fa1w62_0 fa1w62_1 fa1w62_2 la2w62 ca2w62_0 fa2w62_0 lww62 cww62_0 cww62_1 cww62_2 fww62_0 fww62_1 fww62_2 lxw62 cxw62_0 cxw62_1 cxw62_2 fxw62_0 fxw62_1 fxw62_2 lyw62 cyw62_0 cyw62_1 cyw62_2 fyw62_0 fyw62_1 fyw62_2 lzw62 czw62_0 fzw62_0 lgw62 cgw62_0 cgw62_1 cgw62_2 fgw62_0 fgw62_1 fgw62_2
              have bbw65 := Lib.hid (later bbw62.out hbw65)
              have hzw65 := hbw65.size
              have Va0w65 := Lib.hid (Va0w62.out.step hbw65)
              have Va1w65 := Lib.hid (Va1w62.out.step hbw65)
              have Va2w65 := Lib.hid (Va2w62.out.step hbw65)
              have Vww65 := Lib.hid (Vww62.out.step hbw65)
              have Vxw65 := Lib.hid (Vxw62.out.step hbw65)
              have Vyw65 := Lib.hid (Vyw62.out.step hbw65)
              have Vzw65 := Lib.hid (Vzw62.out.step hbw65)
              have Vgw65 := Lib.hid (Vgw62.out.step hbw65)
              have Isw65 : Hid _ := Lib.hid (Isw62.out.step hbw65)
              have Itw65 : Hid _ := Lib.hid (Itw62.out.step hbw65)
              have Irw65 : Hid _ := Lib.hid (Irw62.out.step hbw65)
              clear Va0w62
              clear Va1w62
              clear Va2w62
              clear Vww62
              clear Vxw62
              clear Vyw62
              clear Vzw62
              clear Vgw62
              clear Isw62
              clear Itw62
              clear Irw62
              obtain ⟨la0w65, ca0w65_0, ca0w65_1, ca0w65_2, fa0w65_0, fa0w65_1, fa0w65_2⟩ := Va0w65.out.open3
              obtain ⟨la1w65, ca1w65_0, ca1w65_1, ca1w65_2, fa1w65_0, fa1w65_1, fa1w65_2⟩ := Va1w65.out.open3
              obtain ⟨la2w65, ca2w65_0, fa2w65_0⟩ := Va2w65.out.open1
              obtain ⟨lww65, cww65_0, cww65_1, cww65_2, fww65_0, fww65_1, fww65_2⟩ := Vww65.out.open3
              obtain ⟨lxw65, cxw65_0, cxw65_1, cxw65_2, fxw65_0, fxw65_1, fxw65_2⟩ := Vxw65.out.open3
              obtain ⟨lyw65, cyw65_0, cyw65_1, cyw65_2, fyw65_0, fyw65_1, fyw65_2⟩ := Vyw65.out.open3
              obtain ⟨lzw65, czw65_0, fzw65_0⟩ := Vzw65.out.open1
              obtain ⟨lgw65, cgw65_0, cgw65_1, cgw65_2, fgw65_0, fgw65_1, fgw65_2⟩ := Vgw65.out.open3
              have bjw65 := Lib.hid (later bjw62.out hbw65)
              clear la0w65 ca0w65_0 ca0w65_1 ca0w65_2 fa0w65_0 fa0w65_1 fa0w65_2 la1w65 ca1w65_0 ca1w65_1 ca1w65_2 fa1w65_0 fa1w65_1 fa1w65_2 la2w65 ca2w65_0 fa2w65_0 lww65 cww65_0 cww65_1 cww65_2 fww65_0 fww65_1 fww65_2 lxw65 cxw65_0 cxw65_1 cxw65_2 fxw65_0 fxw65_1 fxw65_2 lyw65 cyw65_0 cyw65_1 cyw65_2 fyw65_0 fyw65_1 fyw65_2 lzw65 czw65_0 fzw65_0 lgw65 cgw65_0 cgw65_1 cgw65_2 fgw65_0 fgw65_1 fgw65_2
              have Vhw65 := Zw65
              obtain ⟨la0w65, ca0w65_0, ca0w65_1, ca0w65_2, fa0w65_0, fa0w65_1, fa0w65_2⟩ := Va0w65.out.open3
              obtain ⟨la1w65, ca1w65_0, ca1w65_1, ca1w65_2, fa1w65_0, fa1w65_1, fa1w65_2⟩ := Va1w65.out.open3
              obtain ⟨la2w65, ca2w65_0, fa2w65_0⟩ := Va2w65.out.open1
              obtain ⟨lww65, cww65_0, cww65_1, cww65_2, fww65_0, fww65_1, fww65_2⟩ := Vww65.out.open3
              obtain ⟨lxw65, cxw65_0, cxw65_1, cxw65_2, fxw65_0, fxw65_1, fxw65_2⟩ := Vxw65.out.open3
              obtain ⟨lyw65, cyw65_0, cyw65_1, cyw65_2, fyw65_0, fyw65_1, fyw65_2⟩ := Vyw65.out.open3
              obtain ⟨lzw65, czw65_0, fzw65_0⟩ := Vzw65.out.open1
              obtain ⟨lgw65, cgw65_0, cgw65_1, cgw65_2, fgw65_0, fgw65_1, fgw65_2⟩ := Vgw65.out.open3
              obtain ⟨lhw65, chw65_0, chw65_1, chw65_2, fhw65_0, fhw65_1, fhw65_2⟩ := Vhw65.out.open3
              have B9 := hbw65
              refine hK.out _ _ ?_ (fun hHeld => ?_)
              · (first | exact ⟨VB.step (hHeld.1) B9, VB.step (hHeld.2.1) B9, VB.step (hHeld.2.2) B9⟩ | exact ⟨VB.drew Va0w58.out, VB.drew Va1w58.out, VB.drew Va2w58.out⟩)
              clear hK K
              try simp only [Act.put, List.setIfInBounds_toArray, List.set_cons_zero, List.set_cons_succ]
              refine readyL (rs := [6]) (by kernel_rfl) (by simp) ?_
              refine AllReadyL.cons (o := ?_) ?_ (fun K hK => ?_) AllReadyL.none_
              rotate_left
              · (simp only [List.getElem?_toArray, List.getElem?_cons_succ, List.getElem?_cons_zero]; rfl)
              go_simp
              go_at_call 18
              ((with_reducible refine (implCopyRegion ix0 iy0 ix1 iy1 _ _ _ _ _ _ _ _ _ _ _ _ _ zs0 zs1 zs2 _ Isw65.out Itw65.out (Recs.arg Irw65.out) rfl hN0 (by omega)).mono ?_))
              rintro e w66 ⟨Aw66, kw66, rfl, Ow66, hbw66⟩
              have Pw66 := Lib.hid Ow66
              clear Ow66
              clear la0w65 ca0w65_0 ca0w65_1 ca0w65_2 fa0w65_0 fa0w65_1 fa0w65_2 la1w65 ca1w65_0 ca1w65_1 ca1w65_2 fa1w65_0 fa1w65_1 fa1w65_2 la2w65 ca2w65_0 fa2w65_0 lww65 cww65_0 cww65_1 cww65_2 fww65_0 fww65_1 fww65_2 lxw65 cxw65_0 cxw65_1 cxw65_2 fxw65_0 fxw65_1 fxw65_2 lyw65 cyw65_0 cyw65_1 cyw65_2 fyw65_0 fyw65_1 fyw65_2 lzw65 czw65_0 fzw65_0 lgw65 cgw65_0 cgw65_1 cgw65_2 fgw65_0 fgw65_1 fgw65_2 lhw65 chw65_0 chw65_1 chw65_2 fhw65_0 fhw65_1 fhw65_2
              have bbw66 := Lib.hid (later bbw65.out hbw66)
              have hzw66 := hbw66.size
              have Va0w66 := Lib.hid (Va0w65.out.step hbw66)
              have Va1w66 := Lib.hid (Va1w65.out.step hbw66)
              have Va2w66 := Lib.hid (Va2w65.out.step hbw66)
              have Vww66 := Lib.hid (Vww65.out.step hbw66)
              have Vxw66 := Lib.hid (Vxw65.out.step hbw66)
              have Vyw66 := Lib.hid (Vyw65.out.step hbw66)
              have Vzw66 := Lib.hid (Vzw65.out.step hbw66)
              have Vgw66 := Lib.hid (Vgw65.out.step hbw66)
              have Vhw66 := Lib.hid (Vhw65.out.step hbw66)
              have Isw66 : Hid _ := Lib.hid (Isw65.out.step hbw66)
              have Itw66 : Hid _ := Lib.hid (Itw65.out.step hbw66)
              have Irw66 : Hid _ := Lib.hid (Irw65.out.step hbw66)
              clear Va0w65
              clear Va1w65
              clear Va2w65
              clear Vww65
              clear Vxw65
              clear Vyw65
              clear Vzw65
              clear Vgw65
              clear Vhw65
              clear Isw65
              clear Itw65
              clear Irw65
              obtain ⟨la0w66, ca0w66_0, ca0w66_1, ca0w66_2, fa0w66_0, fa0w66_1, fa0w66_2⟩ := Va0w66.out.open3
              obtain ⟨la1w66, ca1w66_0, ca1w66_1, ca1w66_2, fa1w66_0, fa1w66_1, fa1w66_2⟩ := Va1w66.out.open3
              obtain ⟨la2w66, ca2w66_0, fa2w66_0⟩ := Va2w66.out.open1
              obtain ⟨lww66, cww66_0, cww66_1, cww66_2, fww66_0, fww66_1, fww66_2⟩ := Vww66.out.open3
              obtain ⟨lxw66, cxw66_0, cxw66_1, cxw66_2, fxw66_0, fxw66_1, fxw66_2⟩ := Vxw66.out.open3
              obtain ⟨lyw66, cyw66_0, cyw66_1, cyw66_2, fyw66_0, fyw66_1, fyw66_2⟩ := Vyw66.out.open3
              obtain ⟨lzw66, czw66_0, fzw66_0⟩ := Vzw66.out.open1
              obtain ⟨lgw66, cgw66_0, cgw66_1, cgw66_2, fgw66_0, fgw66_1, fgw66_2⟩ := Vgw66.out.open3
              obtain ⟨lhw66, chw66_0, chw66_1, chw66_2, fhw66_0, fhw66_1, fhw66_2⟩ := Vhw66.out.open3
              have Ih'w66 := Pw66
              clear Pw66
              have bjw66 := Lib.hid (later bjw65.out hbw66)
              have B9 := hbw66
              refine hK.out _ _ ?_ (fun hHeld => ?_)
              · (first | exact ⟨VB.step (hHeld.1) B9, VB.step (hHeld.2.1) B9, VB.step (hHeld.2.2) B9⟩ | exact ⟨VB.drew Va0w58.out, VB.drew Va1w58.out, VB.drew Va2w58.out⟩)
              clear hK K
              try simp only [Act.put, List.setIfInBounds_toArray, List.set_cons_zero, List.set_cons_succ]
              refine readyL (rs := [8]) (by kernel_rfl) (by simp) ?_
              refine AllReadyL.last (o := ?_) ?_ (fun K hK => ?_)
              rotate_left
              · (simp only [List.getElem?_toArray, List.getElem?_cons_succ, List.getElem?_cons_zero]; rfl)
              go_simp
              refine hK.out _ _ ?_
              clear hK K
              try simp only [Act.put, List.setIfInBounds_toArray, List.set_cons_zero, List.set_cons_succ]
              refine doneL (by kernel_rfl) ?_ _
              go_wp2_with fail
              go_meet
              have e1 : w58.heap.size ≤ w65.heap.size := bjw65.out.size
              have e2 : w66.heap.size ≤ w66.heap.size := Ih'w66.out.hi_le
              case rel => exact ⟨w62.heap.size, rfl, Aw66, kw66, w65.heap.size, w66.heap.size, by omega, e1, Nat.le_trans e2 (Nat.le_of_eq (by simp [World.setCell])), by omega, ((Vhw66.out.set 0 _).set 1 _).set 2 _, Ints.setc3 Ih'w66.out (b := w62.heap.size) (by omega) _ _ _, ((bjw66.out.setCell (by show w58.heap.size ≤ w62.heap.size; omega) _).setCell (by show w58.heap.size ≤ w62.heap.size; omega) _).setCell (by show w58.heap.size ≤ w62.heap.size; omega) _⟩
            exact AllReadyL.none_
          refine AllReadyL.cons (o := ?_) ?_ (fun K hK => ?_) ?_
          rotate_left
          · (simp only [List.getElem?_toArray, List.getElem?_cons_succ, List.getElem?_cons_zero]; rfl)
          · go_simp
            have hbw67 : Below (w61).heap.size (w61) (w61.alloc (.cells #[.int .i64 0, .int .i64 0, .slice none 0 0] 30 (0, 0))) := by first | exact (Below.refl _ _).alloc (Nat.le_refl _) _ | exact (show Below (w58.drew).heap.size w58.drew (w58.drew.alloc (.cells #[.int .i64 0, .int .i64 0, .slice none 0 0] 30 (0, 0))) from (Below.refl _ _).alloc (Nat.le_refl _) _)
            have haw67 : w58.heap.size ≤ w61.heap.size := bjw61.out.size
            have hyw67 : (w61).heap.size < (w61.alloc (.cells #[.int .i64 0, .int .i64 0, .slice none 0 0] 30 (0, 0))).heap.size := by simp
            have Zw67 : Hid (VB (w61.alloc (.cells #[.int .i64 0, .int .i64 0, .slice none 0 0] 30 (0, 0))) (w61.heap.size) [.int .i64 0, .int .i64 0, .slice none 0 0]) := Lib.hid (by first | exact VB.new (cs := [.int .i64 0, .int .i64 0, .slice none 0 0]) rfl | exact VB.drew (VB.new (cs := [.int .i64 0, .int .i64 0, .slice none 0 0]) rfl))
            generalize (w61.alloc (.cells #[.int .i64 0, .int .i64 0, .slice none 0 0] 30 (0, 0))) = w67 at *
            clear la0w61 ca0w61_0 ca0w61_1 ca0w61_2 fa0w61_0 fa0w61_1 fa0w61_2 la1w61 ca1w61_0 ca1w61_1 ca1w61_2 fa1w61_0 fa1w61_1 fa1w61_2 la2w61 ca2w61_0 fa2w61_0 lww61 cww61_0 cww61_1 cww61_2 fww61_0 fww61_1 fww61_2 lxw61 cxw61_0 cxw61_1 cxw61_2 fxw61_0 fxw61_1 fxw61_2 lyw61 cyw61_0 cyw61_1 cyw61_2 fyw61_0 fyw61_1 fyw61_2 lzw61 czw61_0 fzw61_0 lgw61 cgw61_0 cgw61_1 cgw61_2 fgw61_0 fgw61_1 fgw61_2
            have bbw67 := Lib.hid (later bbw61.out hbw67)
            have hzw67 := hbw67.size
            have Va0w67 := Lib.hid (Va0w61.out.step hbw67)
            have Va1w67 := Lib.hid (Va1w61.out.step hbw67)
            have Va2w67 := Lib.hid (Va2w61.out.step hbw67)
            have Vww67 := Lib.hid (Vww61.out.step hbw67)
            have Vxw67 := Lib.hid (Vxw61.out.step hbw67)
            have Vyw67 := Lib.hid (Vyw61.out.step hbw67)
            have Vzw67 := Lib.hid (Vzw61.out.step hbw67)
            have Vgw67 := Lib.hid (Vgw61.out.step hbw67)
            have Isw67 : Hid _ := Lib.hid (Isw61.out.step hbw67)
            have Itw67 : Hid _ := Lib.hid (Itw61.out.step hbw67)
            clear Va0w61
            clear Va1w61
            clear Va2w61
            clear Vww61
            clear Vxw61
            clear Vyw61
            clear Vzw61
            clear Vgw61
            clear Isw61
            clear Itw61
            obtain ⟨la0w67, ca0w67_0, ca0w67_1, ca0w67_2, fa0w67_0, fa0w67_1, fa0w67_2⟩ := Va0w67.out.open3
            obtain ⟨la1w67, ca1w67_0, ca1w67_1, ca1w67_2, fa1w67_0, fa1w67_1, fa1w67_2⟩ := Va1w67.out.open3
            obtain ⟨la2w67, ca2w67_0, fa2w67_0⟩ := Va2w67.out.open1
            obtain ⟨lww67, cww67_0, cww67_1, cww67_2, fww67_0, fww67_1, fww67_2⟩ := Vww67.out.open3
            obtain ⟨lxw67, cxw67_0, cxw67_1, cxw67_2, fxw67_0, fxw67_1, fxw67_2⟩ := Vxw67.out.open3
            obtain ⟨lyw67, cyw67_0, cyw67_1, cyw67_2, fyw67_0, fyw67_1, fyw67_2⟩ := Vyw67.out.open3
            obtain ⟨lzw67, czw67_0, fzw67_0⟩ := Vzw67.out.open1
            obtain ⟨lgw67, cgw67_0, cgw67_1, cgw67_2, fgw67_0, fgw67_1, fgw67_2⟩ := Vgw67.out.open3
            have bjw67 := Lib.hid (later bjw61.out hbw67)
            clear la0w67 ca0w67_0 ca0w67_1 ca0w67_2 fa0w67_0 fa0w67_1 fa0w67_2 la1w67 ca1w67_0 ca1w67_1 ca1w67_2 fa1w67_0 fa1w67_1 fa1w67_2 la2w67 ca2w67_0 fa2w67_0 lww67 cww67_0 cww67_1 cww67_2 fww67_0 fww67_1 fww67_2 lxw67 cxw67_0 cxw67_1 cxw67_2 fxw67_0 fxw67_1 fxw67_2 lyw67 cyw67_0 cyw67_1 cyw67_2 fyw67_0 fyw67_1 fyw67_2 lzw67 czw67_0 fzw67_0 lgw67 cgw67_0 cgw67_1 cgw67_2 fgw67_0 fgw67_1 fgw67_2
            have Vhw67 := Zw67
            obtain ⟨la0w67, ca0w67_0, ca0w67_1, ca0w67_2, fa0w67_0, fa0w67_1, fa0w67_2⟩ := Va0w67.out.open3
            obtain ⟨la1w67, ca1w67_0, ca1w67_1, ca1w67_2, fa1w67_0, fa1w67_1, fa1w67_2⟩ := Va1w67.out.open3
            obtain ⟨la2w67, ca2w67_0, fa2w67_0⟩ := Va2w67.out.open1
            obtain ⟨lww67, cww67_0, cww67_1, cww67_2, fww67_0, fww67_1, fww67_2⟩ := Vww67.out.open3
            obtain ⟨lxw67, cxw67_0, cxw67_1, cxw67_2, fxw67_0, fxw67_1, fxw67_2⟩ := Vxw67.out.open3
            obtain ⟨lyw67, cyw67_0, cyw67_1, cyw67_2, fyw67_0, fyw67_1, fyw67_2⟩ := Vyw67.out.open3
            obtain ⟨lzw67, czw67_0, fzw67_0⟩ := Vzw67.out.open1
            obtain ⟨lgw67, cgw67_0, cgw67_1, cgw67_2, fgw67_0, fgw67_1, fgw67_2⟩ := Vgw67.out.open3
            obtain ⟨lhw67, chw67_0, chw67_1, chw67_2, fhw67_0, fhw67_1, fhw67_2⟩ := Vhw67.out.open3
            have B9 := hbw67
            refine hK.out _ _ ?_ (fun hHeld => ?_)
            · (first | exact ⟨VB.step (hHeld.1) B9, VB.step (hHeld.2.1) B9, VB.step (hHeld.2.2) B9⟩ | exact ⟨VB.drew Va0w58.out, VB.drew Va1w58.out, VB.drew Va2w58.out⟩)
            clear hK K
            try simp only [Act.put, List.setIfInBounds_toArray, List.set_cons_zero, List.set_cons_succ]
            refine readyL (rs := [5]) (by kernel_rfl) (by simp) ?_
            refine AllReadyL.cons (o := ?_) ?_ (fun K hK => ?_) AllReadyL.none_
            rotate_left
            · (simp only [List.getElem?_toArray, List.getElem?_cons_succ, List.getElem?_cons_zero]; rfl)
            go_simp
            go_at_call 17
            ((with_reducible refine (toRegion_any _ _ _ zs2 _ (arg2.out.below bbw67.out) L2.out hsm2).mono ?_))
            rintro e w68 ⟨Aw68, kw68, rfl, Ow68, hbw68⟩
            have Pw68 := Lib.hid Ow68
            clear Ow68
            clear la0w67 ca0w67_0 ca0w67_1 ca0w67_2 fa0w67_0 fa0w67_1 fa0w67_2 la1w67 ca1w67_0 ca1w67_1 ca1w67_2 fa1w67_0 fa1w67_1 fa1w67_2 la2w67 ca2w67_0 fa2w67_0 lww67 cww67_0 cww67_1 cww67_2 fww67_0 fww67_1 fww67_2 lxw67 cxw67_0 cxw67_1 cxw67_2 fxw67_0 fxw67_1 fxw67_2 lyw67 cyw67_0 cyw67_1 cyw67_2 fyw67_0 fyw67_1 fyw67_2 lzw67 czw67_0 fzw67_0 lgw67 cgw67_0 cgw67_1 cgw67_2 fgw67_0 fgw67_1 fgw67_2 lhw67 chw67_0 chw67_1 chw67_2 fhw67_0 fhw67_1 fhw67_2
            have bbw68 := Lib.hid (later bbw67.out hbw68)
            have hzw68 := hbw68.size
            have Va0w68 := Lib.hid (Va0w67.out.step hbw68)
            have Va1w68 := Lib.hid (Va1w67.out.step hbw68)
            have Va2w68 := Lib.hid (Va2w67.out.step hbw68)
            have Vww68 := Lib.hid (Vww67.out.step hbw68)
            have Vxw68 := Lib.hid (Vxw67.out.step hbw68)
            have Vyw68 := Lib.hid (Vyw67.out.step hbw68)
            have Vzw68 := Lib.hid (Vzw67.out.step hbw68)
            have Vgw68 := Lib.hid (Vgw67.out.step hbw68)
            have Vhw68 := Lib.hid (Vhw67.out.step hbw68)
            have Isw68 : Hid _ := Lib.hid (Isw67.out.step hbw68)
            have Itw68 : Hid _ := Lib.hid (Itw67.out.step hbw68)
            clear Va0w67
            clear Va1w67
            clear Va2w67
            clear Vww67
            clear Vxw67
            clear Vyw67
            clear Vzw67
            clear Vgw67
            clear Vhw67
            clear Isw67
            clear Itw67
            obtain ⟨la0w68, ca0w68_0, ca0w68_1, ca0w68_2, fa0w68_0, fa0w68_1, fa0w68_2⟩ := Va0w68.out.open3
            obtain ⟨la1w68, ca1w68_0, ca1w68_1, ca1w68_2, fa1w68_0, fa1w68_1, fa1w68_2⟩ := Va1w68.out.open3
            obtain ⟨la2w68, ca2w68_0, fa2w68_0⟩ := Va2w68.out.open1
            obtain ⟨lww68, cww68_0, cww68_1, cww68_2, fww68_0, fww68_1, fww68_2⟩ := Vww68.out.open3
            obtain ⟨lxw68, cxw68_0, cxw68_1, cxw68_2, fxw68_0, fxw68_1, fxw68_2⟩ := Vxw68.out.open3
            obtain ⟨lyw68, cyw68_0, cyw68_1, cyw68_2, fyw68_0, fyw68_1, fyw68_2⟩ := Vyw68.out.open3
            obtain ⟨lzw68, czw68_0, fzw68_0⟩ := Vzw68.out.open1
            obtain ⟨lgw68, cgw68_0, cgw68_1, cgw68_2, fgw68_0, fgw68_1, fgw68_2⟩ := Vgw68.out.open3
            obtain ⟨lhw68, chw68_0, chw68_1, chw68_2, fhw68_0, fhw68_1, fhw68_2⟩ := Vhw68.out.open3
            have Irw68 := Pw68
            clear Pw68
            have bjw68 := Lib.hid (later bjw67.out hbw68)
            have B9 := hbw68
            refine hK.out _ _ ?_ (fun hHeld => ?_)
            · (first | exact ⟨VB.step (hHeld.1) B9, VB.step (hHeld.2.1) B9, VB.step (hHeld.2.2) B9⟩ | exact ⟨VB.drew Va0w58.out, VB.drew Va1w58.out, VB.drew Va2w58.out⟩)
            clear hK K
            try simp only [Act.put, List.setIfInBounds_toArray, List.set_cons_zero, List.set_cons_succ]
            refine readyL (rs := [6]) (by kernel_rfl) (by simp) ?_
            refine AllReadyL.cons (o := ?_) ?_ (fun K hK => ?_) AllReadyL.none_
            rotate_left
            · (simp only [List.getElem?_toArray, List.getElem?_cons_succ, List.getElem?_cons_zero]; rfl)
            go_simp
            go_at_call 18
            ((with_reducible refine (implCopyRegion ix0 iy0 ix1 iy1 _ _ _ _ _ _ _ _ _ _ _ _ _ zs0 zs1 zs2 _ Isw68.out Itw68.out (Recs.arg Irw68.out) rfl hN0 (by omega)).mono ?_))
            rintro e w69 ⟨Aw69, kw69, rfl, Ow69, hbw69⟩
            have Pw69 := Lib.hid Ow69
            clear Ow69
            clear la0w68 ca0w68_0 ca0w68_1 ca0w68_2 fa0w68_0 fa0w68_1 fa0w68_2 la1w68 ca1w68_0 ca1w68_1 ca1w68_2 fa1w68_0 fa1w68_1 fa1w68_2 la2w68 ca2w68_0 fa2w68_0 lww68 cww68_0 cww68_1 cww68_2 fww68_0 fww68_1 fww68_2 lxw68 cxw68_0 cxw68_1 cxw68_2 fxw68_0 fxw68_1 fxw68_2 lyw68 cyw68_0 cyw68_1 cyw68_2 fyw68_0 fyw68_1 fyw68_2 lzw68 czw68_0 fzw68_0 lgw68 cgw68_0 cgw68_1 cgw68_2 fgw68_0 fgw68_1 fgw68_2 lhw68 chw68_0 chw68_1 chw68_2 fhw68_0 fhw68_1 fhw68_2
            have bbw69 := Lib.hid (later bbw68.out hbw69)
            have hzw69 := hbw69.size
            have Va0w69 := Lib.hid (Va0w68.out.step hbw69)
            have Va1w69 := Lib.hid (Va1w68.out.step hbw69)
            have Va2w69 := Lib.hid (Va2w68.out.step hbw69)
            have Vww69 := Lib.hid (Vww68.out.step hbw69)
            have Vxw69 := Lib.hid (Vxw68.out.step hbw69)
            have Vyw69 := Lib.hid (Vyw68.out.step hbw69)
            have Vzw69 := Lib.hid (Vzw68.out.step hbw69)
            have Vgw69 := Lib.hid (Vgw68.out.step hbw69)
            have Vhw69 := Lib.hid (Vhw68.out.step hbw69)
            have Isw69 : Hid _ := Lib.hid (Isw68.out.step hbw69)
            have Itw69 : Hid _ := Lib.hid (Itw68.out.step hbw69)
            have Irw69 : Hid _ := Lib.hid (Irw68.out.step hbw69)
            clear Va0w68
            clear Va1w68
            clear Va2w68
            clear Vww68
            clear Vxw68
            clear Vyw68
            clear Vzw68
            clear Vgw68
            clear Vhw68
            clear Isw68
            clear Itw68
            clear Irw68
            obtain ⟨la0w69, ca0w69_0, ca0w69_1, ca0w69_2, fa0w69_0, fa0w69_1, fa0w69_2⟩ := Va0w69.out.open3
            obtain ⟨la1w69, ca1w69_0, ca1w69_1, ca1w69_2, fa1w69_0, fa1w69_1, fa1w69_2⟩ := Va1w69.out.open3
            obtain ⟨la2w69, ca2w69_0, fa2w69_0⟩ := Va2w69.out.open1
            obtain ⟨lww69, cww69_0, cww69_1, cww69_2, fww69_0, fww69_1, fww69_2⟩ := Vww69.out.open3
            obtain ⟨lxw69, cxw69_0, cxw69_1, cxw69_2, fxw69_0, fxw69_1, fxw69_2⟩ := Vxw69.out.open3
            obtain ⟨lyw69, cyw69_0, cyw69_1, cyw69_2, fyw69_0, fyw69_1, fyw69_2⟩ := Vyw69.out.open3
            obtain ⟨lzw69, czw69_0, fzw69_0⟩ := Vzw69.out.open1
            obtain ⟨lgw69, cgw69_0, cgw69_1, cgw69_2, fgw69_0, fgw69_1, fgw69_2⟩ := Vgw69.out.open3
            obtain ⟨lhw69, chw69_0, chw69_1, chw69_2, fhw69_0, fhw69_1, fhw69_2⟩ := Vhw69.out.open3
            have Ih'w69 := Pw69
            clear Pw69
            have bjw69 := Lib.hid (later bjw68.out hbw69)
            have B9 := hbw69
            refine hK.out _ _ ?_ (fun hHeld => ?_)
            · (first | exact ⟨VB.step (hHeld.1) B9, VB.step (hHeld.2.1) B9, VB.step (hHeld.2.2) B9⟩ | exact ⟨VB.drew Va0w58.out, VB.drew Va1w58.out, VB.drew Va2w58.out⟩)
            clear hK K
            try simp only [Act.put, List.setIfInBounds_toArray, List.set_cons_zero, List.set_cons_succ]
            refine readyL (rs := [8]) (by kernel_rfl) (by simp) ?_
            refine AllReadyL.last (o := ?_) ?_ (fun K hK => ?_)
            rotate_left
            · (simp only [List.getElem?_toArray, List.getElem?_cons_succ, List.getElem?_cons_zero]; rfl)
            go_simp
            refine hK.out _ _ ?_
            clear hK K
            try simp only [Act.put, List.setIfInBounds_toArray, List.set_cons_zero, List.set_cons_succ]
            refine doneL (by kernel_rfl) ?_ _
            go_wp2_with fail
            go_meet
            have e1 : w58.heap.size ≤ w68.heap.size := bjw68.out.size
            have e2 : w69.heap.size ≤ w69.heap.size := Ih'w69.out.hi_le
            case rel => exact ⟨w61.heap.size, rfl, Aw69, kw69, w68.heap.size, w69.heap.size, by omega, e1, Nat.le_trans e2 (Nat.le_of_eq (by simp [World.setCell])), by omega, ((Vhw69.out.set 0 _).set 1 _).set 2 _, Ints.setc3 Ih'w69.out (b := w61.heap.size) (by omega) _ _ _, ((bjw69.out.setCell (by show w58.heap.size ≤ w61.heap.size; omega) _).setCell (by show w58.heap.size ≤ w61.heap.size; omega) _).setCell (by show w58.heap.size ≤ w61.heap.size; omega) _⟩
          exact AllReadyL.none_
        refine AllReadyL.cons (o := ?_) ?_ (fun K hK => ?_) ?_
        rotate_left
        · (simp only [List.getElem?_toArray, List.getElem?_cons_succ, List.getElem?_cons_zero]; rfl)
        · go_simp
          have hbw70 : Below (w60).heap.size (w60) (w60.alloc (.cells #[.int .i64 0, .int .i64 0, .slice none 0 0] 30 (0, 0))) := by first | exact (Below.refl _ _).alloc (Nat.le_refl _) _ | exact (show Below (w58.drew).heap.size w58.drew (w58.drew.alloc (.cells #[.int .i64 0, .int .i64 0, .slice none 0 0] 30 (0, 0))) from (Below.refl _ _).alloc (Nat.le_refl _) _)
          have haw70 : w58.heap.size ≤ w60.heap.size := bjw60.out.size
          have hyw70 : (w60).heap.size < (w60.alloc (.cells #[.int .i64 0, .int .i64 0, .slice none 0 0] 30 (0, 0))).heap.size := by simp
          have Zw70 : Hid (VB (w60.alloc (.cells #[.int .i64 0, .int .i64 0, .slice none 0 0] 30 (0, 0))) (w60.heap.size) [.int .i64 0, .int .i64 0, .slice none 0 0]) := Lib.hid (by first | exact VB.new (cs := [.int .i64 0, .int .i64 0, .slice none 0 0]) rfl | exact VB.drew (VB.new (cs := [.int .i64 0, .int .i64 0, .slice none 0 0]) rfl))
          generalize (w60.alloc (.cells #[.int .i64 0, .int .i64 0, .slice none 0 0] 30 (0, 0))) = w70 at *
          clear la0w60 ca0w60_0 ca0w60_1 ca0w60_2 fa0w60_0 fa0w60_1 fa0w60_2 la1w60 ca1w60_0 ca1w60_1 ca1w60_2 fa1w60_0 fa1w60_1 fa1w60_2 la2w60 ca2w60_0 fa2w60_0 lww60 cww60_0 cww60_1 cww60_2 fww60_0 fww60_1 fww60_2 lxw60 cxw60_0 cxw60_1 cxw60_2 fxw60_0 fxw60_1 fxw60_2 lyw60 cyw60_0 cyw60_1 cyw60_2 fyw60_0 fyw60_1 fyw60_2 lzw60 czw60_0 fzw60_0 lgw60 cgw60_0 cgw60_1 cgw60_2 fgw60_0 fgw60_1 fgw60_2
          have bbw70 := Lib.hid (later bbw60.out hbw70)
          have hzw70 := hbw70.size
          have Va0w70 := Lib.hid (Va0w60.out.step hbw70)
          have Va1w70 := Lib.hid (Va1w60.out.step hbw70)
          have Va2w70 := Lib.hid (Va2w60.out.step hbw70)
          have Vww70 := Lib.hid (Vww60.out.step hbw70)
          have Vxw70 := Lib.hid (Vxw60.out.step hbw70)
          have Vyw70 := Lib.hid (Vyw60.out.step hbw70)
          have Vzw70 := Lib.hid (Vzw60.out.step hbw70)
          have Vgw70 := Lib.hid (Vgw60.out.step hbw70)
          have Isw70 : Hid _ := Lib.hid (Isw60.out.step hbw70)
          clear Va0w60
          clear Va1w60
          clear Va2w60
          clear Vww60
          clear Vxw60
          clear Vyw60
          clear Vzw60
          clear Vgw60
          clear Isw60
          obtain ⟨la0w70, ca0w70_0, ca0w70_1, ca0w70_2, fa0w70_0, fa0w70_1, fa0w70_2⟩ := Va0w70.out.open3
          obtain ⟨la1w70, ca1w70_0, ca1w70_1, ca1w70_2, fa1w70_0, fa1w70_1, fa1w70_2⟩ := Va1w70.out.open3
          obtain ⟨la2w70, ca2w70_0, fa2w70_0⟩ := Va2w70.out.open1
          obtain ⟨lww70, cww70_0, cww70_1, cww70_2, fww70_0, fww70_1, fww70_2⟩ := Vww70.out.open3
          obtain ⟨lxw70, cxw70_0, cxw70_1, cxw70_2, fxw70_0, fxw70_1, fxw70_2⟩ := Vxw70.out.open3
          obtain ⟨lyw70, cyw70_0, cyw70_1, cyw70_2, fyw70_0, fyw70_1, fyw70_2⟩ := Vyw70.out.open3
          obtain ⟨lzw70, czw70_0, fzw70_0⟩ := Vzw70.out.open1
          obtain ⟨lgw70, cgw70_0, cgw70_1, cgw70_2, fgw70_0, fgw70_1, fgw70_2⟩ := Vgw70.out.open3
          have bjw70 := Lib.hid (later bjw60.out hbw70)
          clear la0w70 ca0w70_0 ca0w70_1 ca0w70_2 fa0w70_0 fa0w70_1 fa0w70_2 la1w70 ca1w70_0 ca1w70_1 ca1w70_2 fa1w70_0 fa1w70_1 fa1w70_2 la2w70 ca2w70_0 fa2w70_0 lww70 cww70_0 cww70_1 cww70_2 fww70_0 fww70_1 fww70_2 lxw70 cxw70_0 cxw70_1 cxw70_2 fxw70_0 fxw70_1 fxw70_2 lyw70 cyw70_0 cyw70_1 cyw70_2 fyw70_0 fyw70_1 fyw70_2 lzw70 czw70_0 fzw70_0 lgw70 cgw70_0 cgw70_1 cgw70_2 fgw70_0 fgw70_1 fgw70_2
          have Vhw70 := Zw70
          obtain ⟨la0w70, ca0w70_0, ca0w70_1, ca0w70_2, fa0w70_0, fa0w70_1, fa0w70_2⟩ := Va0w70.out.open3
          obtain ⟨la1w70, ca1w70_0, ca1w70_1, ca1w70_2, fa1w70_0, fa1w70_1, fa1w70_2⟩ := Va1w70.out.open3
          obtain ⟨la2w70, ca2w70_0, fa2w70_0⟩ := Va2w70.out.open1
          obtain ⟨lww70, cww70_0, cww70_1, cww70_2, fww70_0, fww70_1, fww70_2⟩ := Vww70.out.open3
          obtain ⟨lxw70, cxw70_0, cxw70_1, cxw70_2, fxw70_0, fxw70_1, fxw70_2⟩ := Vxw70.out.open3
          obtain ⟨lyw70, cyw70_0, cyw70_1, cyw70_2, fyw70_0, fyw70_1, fyw70_2⟩ := Vyw70.out.open3
          obtain ⟨lzw70, czw70_0, fzw70_0⟩ := Vzw70.out.open1
          obtain ⟨lgw70, cgw70_0, cgw70_1, cgw70_2, fgw70_0, fgw70_1, fgw70_2⟩ := Vgw70.out.open3
          obtain ⟨lhw70, chw70_0, chw70_1, chw70_2, fhw70_0, fhw70_1, fhw70_2⟩ := Vhw70.out.open3
          have B9 := hbw70
          refine hK.out _ _ ?_ (fun hHeld => ?_)
          · (first | exact ⟨VB.step (hHeld.1) B9, VB.step (hHeld.2.1) B9, VB.step (hHeld.2.2) B9⟩ | exact ⟨VB.drew Va0w58.out, VB.drew Va1w58.out, VB.drew Va2w58.out⟩)
          clear hK K
          try simp only [Act.put, List.setIfInBounds_toArray, List.set_cons_zero, List.set_cons_succ]
          refine readyL (rs := [3]) (by kernel_rfl) (by simp) ?_
          refine AllReadyL.cons (o := ?_) ?_ (fun K hK => ?_) AllReadyL.none_
          rotate_left
          · (simp only [List.getElem?_toArray, List.getElem?_cons_succ, List.getElem?_cons_zero]; rfl)
          go_simp
          go_at_call 8
          ((with_reducible refine (toImage_any _ _ _ _ _ zs1 _ (arg1.out.below bbw70.out) L1.out hsm1).mono ?_))
          rintro e w71 ⟨Aw71, kw71, rfl, Ow71, hbw71⟩
          have Pw71 := Lib.hid Ow71
          clear Ow71
          clear la0w70 ca0w70_0 ca0w70_1 ca0w70_2 fa0w70_0 fa0w70_1 fa0w70_2 la1w70 ca1w70_0 ca1w70_1 ca1w70_2 fa1w70_0 fa1w70_1 fa1w70_2 la2w70 ca2w70_0 fa2w70_0 lww70 cww70_0 cww70_1 cww70_2 fww70_0 fww70_1 fww70_2 lxw70 cxw70_0 cxw70_1 cxw70_2 fxw70_0 fxw70_1 fxw70_2 lyw70 cyw70_0 cyw70_1 cyw70_2 fyw70_0 fyw70_1 fyw70_2 lzw70 czw70_0 fzw70_0 lgw70 cgw70_0 cgw70_1 cgw70_2 fgw70_0 fgw70_1 fgw70_2 lhw70 chw70_0 chw70_1 chw70_2 fhw70_0 fhw70_1 fhw70_2
          have bbw71 := Lib.hid (later bbw70.out hbw71)
          have hzw71 := hbw71.size
          have Va0w71 := Lib.hid (Va0w70.out.step hbw71)
          have Va1w71 := Lib.hid (Va1w70.out.step hbw71)
          have Va2w71 := Lib.hid (Va2w70.out.step hbw71)
          have Vww71 := Lib.hid (Vww70.out.step hbw71)
          have Vxw71 := Lib.hid (Vxw70.out.step hbw71)
          have Vyw71 := Lib.hid (Vyw70.out.step hbw71)
          have Vzw71 := Lib.hid (Vzw70.out.step hbw71)
          have Vgw71 := Lib.hid (Vgw70.out.step hbw71)
          have Vhw71 := Lib.hid (Vhw70.out.step hbw71)
          have Isw71 : Hid _ := Lib.hid (Isw70.out.step hbw71)
          clear Va0w70
          clear Va1w70
          clear Va2w70
          clear Vww70
          clear Vxw70
          clear Vyw70
          clear Vzw70
          clear Vgw70
          clear Vhw70
          clear Isw70
          obtain ⟨la0w71, ca0w71_0, ca0w71_1, ca0w71_2, fa0w71_0, fa0w71_1, fa0w71_2⟩ := Va0w71.out.open3
          obtain ⟨la1w71, ca1w71_0, ca1w71_1, ca1w71_2, fa1w71_0, fa1w71_1, fa1w71_2⟩ := Va1w71.out.open3
          obtain ⟨la2w71, ca2w71_0, fa2w71_0⟩ := Va2w71.out.open1
          obtain ⟨lww71, cww71_0, cww71_1, cww71_2, fww71_0, fww71_1, fww71_2⟩ := Vww71.out.open3
          obtain ⟨lxw71, cxw71_0, cxw71_1, cxw71_2, fxw71_0, fxw71_1, fxw71_2⟩ := Vxw71.out.open3
          obtain ⟨lyw71, cyw71_0, cyw71_1, cyw71_2, fyw71_0, fyw71_1, fyw71_2⟩ := Vyw71.out.open3
          obtain ⟨lzw71, czw71_0, fzw71_0⟩ := Vzw71.out.open1
          obtain ⟨lgw71, cgw71_0, cgw71_1, cgw71_2, fgw71_0, fgw71_1, fgw71_2⟩ := Vgw71.out.open3
          obtain ⟨lhw71, chw71_0, chw71_1, chw71_2, fhw71_0, fhw71_1, fhw71_2⟩ := Vhw71.out.open3
          have Itw71 := Pw71
          clear Pw71
          have bjw71 := Lib.hid (later bjw70.out hbw71)
          have B9 := hbw71
          refine hK.out _ _ ?_ (fun hHeld => ?_)
          · (first | exact ⟨VB.step (hHeld.1) B9, VB.step (hHeld.2.1) B9, VB.step (hHeld.2.2) B9⟩ | exact ⟨VB.drew Va0w58.out, VB.drew Va1w58.out, VB.drew Va2w58.out⟩)
          clear hK K
          try simp only [Act.put, List.setIfInBounds_toArray, List.set_cons_zero, List.set_cons_succ]
          refine readyL (rs := [5]) (by kernel_rfl) (by simp) ?_
          refine AllReadyL.cons (o := ?_) ?_ (fun K hK => ?_) AllReadyL.none_
          rotate_left
          · (simp only [List.getElem?_toArray, List.getElem?_cons_succ, List.getElem?_cons_zero]; rfl)
          go_simp
          go_at_call 17
          ((with_reducible refine (toRegion_any _ _ _ zs2 _ (arg2.out.below bbw71.out) L2.out hsm2).mono ?_))
          rintro e w72 ⟨Aw72, kw72, rfl, Ow72, hbw72⟩
          have Pw72 := Lib.hid Ow72
          clear Ow72
          clear la0w71 ca0w71_0 ca0w71_1 ca0w71_2 fa0w71_0 fa0w71_1 fa0w71_2 la1w71 ca1w71_0 ca1w71_1 ca1w71_2 fa1w71_0 fa1w71_1 fa1w71_2 la2w71 ca2w71_0 fa2w71_0 lww71 cww71_0 cww71_1 cww71_2 fww71_0 fww71_1 fww71_2 lxw71 cxw71_0 cxw71_1 cxw71_2 fxw71_0 fxw71_1 fxw71_2 lyw71 cyw71_0 cyw71_1 cyw71_2 fyw71_0 fyw71_1 fyw71_2 lzw71 czw71_0 fzw71_0 lgw71 cgw71_0 cgw71_1 cgw71_2 fgw71_0 fgw71_1 fgw71_2 lhw71 chw71_0 chw71_1 chw71_2 fhw71_0 fhw71_1 fhw71_2
          have bbw72 := Lib.hid (later bbw71.out hbw72)
          have hzw72 := hbw72.size
          have Va0w72 := Lib.hid (Va0w71.out.step hbw72)
          have Va1w72 := Lib.hid (Va1w71.out.step hbw72)
          have Va2w72 := Lib.hid (Va2w71.out.step hbw72)
          have Vww72 := Lib.hid (Vww71.out.step hbw72)
          have Vxw72 := Lib.hid (Vxw71.out.step hbw72)
          have Vyw72 := Lib.hid (Vyw71.out.step hbw72)
          have Vzw72 := Lib.hid (Vzw71.out.step hbw72)
          have Vgw72 := Lib.hid (Vgw71.out.step hbw72)
          have Vhw72 := Lib.hid (Vhw71.out.step hbw72)
          have Isw72 : Hid _ := Lib.hid (Isw71.out.step hbw72)
          have Itw72 : Hid _ := Lib.hid (Itw71.out.step hbw72)
          clear Va0w71
          clear Va1w71
          clear Va2w71
          clear Vww71
          clear Vxw71
          clear Vyw71
          clear Vzw71
          clear Vgw71
          clear Vhw71
          clear Isw71
          clear Itw71
          obtain ⟨la0w72, ca0w72_0, ca0w72_1, ca0w72_2, fa0w72_0, fa0w72_1, fa0w72_2⟩ := Va0w72.out.open3
          obtain ⟨la1w72, ca1w72_0, ca1w72_1, ca1w72_2, fa1w72_0, fa1w72_1, fa1w72_2⟩ := Va1w72.out.open3
          obtain ⟨la2w72, ca2w72_0, fa2w72_0⟩ := Va2w72.out.open1
          obtain ⟨lww72, cww72_0, cww72_1, cww72_2, fww72_0, fww72_1, fww72_2⟩ := Vww72.out.open3
          obtain ⟨lxw72, cxw72_0, cxw72_1, cxw72_2, fxw72_0, fxw72_1, fxw72_2⟩ := Vxw72.out.open3
          obtain ⟨lyw72, cyw72_0, cyw72_1, cyw72_2, fyw72_0, fyw72_1, fyw72_2⟩ := Vyw72.out.open3
          obtain ⟨lzw72, czw72_0, fzw72_0⟩ := Vzw72.out.open1
          obtain ⟨lgw72, cgw72_0, cgw72_1, cgw72_2, fgw72_0, fgw72_1, fgw72_2⟩ := Vgw72.out.open3
          obtain ⟨lhw72, chw72_0, chw72_1, chw72_2, fhw72_0, fhw72_1, fhw72_2⟩ := Vhw72.out.open3
          have Irw72 := Pw72
          clear Pw72
          have bjw72 := Lib.hid (later bjw71.out hbw72)
          have B9 := hbw72
          refine hK.out _ _ ?_ (fun hHeld => ?_)
          · (first | exact ⟨VB.step (hHeld.1) B9, VB.step (hHeld.2.1) B9, VB.step (hHeld.2.2) B9⟩ | exact ⟨VB.drew Va0w58.out, VB.drew Va1w58.out, VB.drew Va2w58.out⟩)
          clear hK K
          try simp only [Act.put, List.setIfInBounds_toArray, List.set_cons_zero, List.set_cons_succ]
          refine readyL (rs := [6]) (by kernel_rfl) (by simp) ?_
          refine AllReadyL.cons (o := ?_) ?_ (fun K hK => ?_) AllReadyL.none_
          rotate_left
          · (simp only [List.getElem?_toArray, List.getElem?_cons_succ, List.getElem?_cons_zero]; rfl)
          go_simp
          go_at_call 18
          ((with_reducible refine (implCopyRegion ix0 iy0 ix1 iy1 _ _ _ _ _ _ _ _ _ _ _ _ _ zs0 zs1 zs2 _ Isw72.out Itw72.out (Recs.arg Irw72.out) rfl hN0 (by omega)).mono ?_))
          rintro e w73 ⟨Aw73, kw73, rfl, Ow73, hbw73⟩
          have Pw73 := Lib.hid Ow73
          clear Ow73
          clear la0w72 ca0w72_0 ca0w72_1 ca0w72_2 fa0w72_0 fa0w72_1 fa0w72_2 la1w72 ca1w72_0 ca1w72_1 ca1w72_2 fa1w72_0 fa1w72_1 fa1w72_2 la2w72 ca2w72_0 fa2w72_0 lww72 cww72_0 cww72_1 cww72_2 fww72_0 fww72_1 fww72_2 lxw72 cxw72_0 cxw72_1 cxw72_2 fxw72_0 fxw72_1 fxw72_2 lyw72 cyw72_0 cyw72_1 cyw72_2 fyw72_0 fyw72_1 fyw72_2 lzw72 czw72_0 fzw72_0 lgw72 cgw72_0 cgw72_1 cgw72_2 fgw72_0 fgw72_1 fgw72_2 lhw72 chw72_0 chw72_1 chw72_2 fhw72_0 fhw72_1 fhw72_2
          have bbw73 := Lib.hid (later bbw72.out hbw73)
          have hzw73 := hbw73.size
          have Va0w73 := Lib.hid (Va0w72.out.step hbw73)
          have Va1w73 := Lib.hid (Va1w72.out.step hbw73)
          have Va2w73 := Lib.hid (Va2w72.out.step hbw73)
          have Vww73 := Lib.hid (Vww72.out.step hbw73)
          have Vxw73 := Lib.hid (Vxw72.out.step hbw73)
          have Vyw73 := Lib.hid (Vyw72.out.step hbw73)
          have Vzw73 := Lib.hid (Vzw72.out.step hbw73)
          have Vgw73 := Lib.hid (Vgw72.out.step hbw73)
          have Vhw73 := Lib.hid (Vhw72.out.step hbw73)
          have Isw73 : Hid _ := Lib.hid (Isw72.out.step hbw73)
          have Itw73 : Hid _ := Lib.hid (Itw72.out.step hbw73)
          have Irw73 : Hid _ := Lib.hid (Irw72.out.step hbw73)
          clear Va0w72
          clear Va1w72
          clear Va2w72
          clear Vww72
          clear Vxw72
          clear Vyw72
          clear Vzw72
          clear Vgw72
          clear Vhw72
          clear Isw72
          clear Itw72
          clear Irw72
          obtain ⟨la0w73, ca0w73_0, ca0w73_1, ca0w73_2, fa0w73_0, fa0w73_1, fa0w73_2⟩ := Va0w73.out.open3
          obtain ⟨la1w73, ca1w73_0, ca1w73_1, ca1w73_2, fa1w73_0, fa1w73_1, fa1w73_2⟩ := Va1w73.out.open3
          obtain ⟨la2w73, ca2w73_0, fa2w73_0⟩ := Va2w73.out.open1
          obtain ⟨lww73, cww73_0, cww73_1, cww73_2, fww73_0, fww73_1, fww73_2⟩ := Vww73.out.open3
          obtain ⟨lxw73, cxw73_0, cxw73_1, cxw73_2, fxw73_0, fxw73_1, fxw73_2⟩ := Vxw73.out.open3
          obtain ⟨lyw73, cyw73_0, cyw73_1, cyw73_2, fyw73_0, fyw73_1, fyw73_2⟩ := Vyw73.out.open3
          obtain ⟨lzw73, czw73_0, fzw73_0⟩ := Vzw73.out.open1
          obtain ⟨lgw73, cgw73_0, cgw73_1, cgw73_2, fgw73_0, fgw73_1, fgw73_2⟩ := Vgw73.out.open3
          obtain ⟨lhw73, chw73_0, chw73_1, chw73_2, fhw73_0, fhw73_1, fhw73_2⟩ := Vhw73.out.open3
          have Ih'w73 := Pw73
          clear Pw73
          have bjw73 := Lib.hid (later bjw72.out hbw73)
          have B9 := hbw73
          refine hK.out _ _ ?_ (fun hHeld => ?_)
          · (first | exact ⟨VB.step (hHeld.1) B9, VB.step (hHeld.2.1) B9, VB.step (hHeld.2.2) B9⟩ | exact ⟨VB.drew Va0w58.out, VB.drew Va1w58.out, VB.drew Va2w58.out⟩)
          clear hK K
          try simp only [Act.put, List.setIfInBounds_toArray, List.set_cons_zero, List.set_cons_succ]
          refine readyL (rs := [8]) (by kernel_rfl) (by simp) ?_
          refine AllReadyL.last (o := ?_) ?_ (fun K hK => ?_)
          rotate_left
          · (simp only [List.getElem?_toArray, List.getElem?_cons_succ, List.getElem?_cons_zero]; rfl)
          go_simp
          refine hK.out _ _ ?_
          clear hK K
          try simp only [Act.put, List.setIfInBounds_toArray, List.set_cons_zero, List.set_cons_succ]
          refine doneL (by kernel_rfl) ?_ _
          go_wp2_with fail
          go_meet
          have e1 : w58.heap.size ≤ w72.heap.size := bjw72.out.size
          have e2 : w73.heap.size ≤ w73.heap.size := Ih'w73.out.hi_le
          case rel => exact ⟨w60.heap.size, rfl, Aw73, kw73, w72.heap.size, w73.heap.size, by omega, e1, Nat.le_trans e2 (Nat.le_of_eq (by simp [World.setCell])), by omega, ((Vhw73.out.set 0 _).set 1 _).set 2 _, Ints.setc3 Ih'w73.out (b := w60.heap.size) (by omega) _ _ _, ((bjw73.out.setCell (by show w58.heap.size ≤ w60.heap.size; omega) _).setCell (by show w58.heap.size ≤ w60.heap.size; omega) _).setCell (by show w58.heap.size ≤ w60.heap.size; omega) _⟩
        exact AllReadyL.none_
      refine AllReadyL.cons (o := ?_) ?_ (fun K hK => ?_) ?_
      rotate_left
      · (simp only [List.getElem?_toArray, List.getElem?_cons_succ, List.getElem?_cons_zero]; rfl)
      · go_simp
        have hbw74 : Below (w58.drew).heap.size (w58.drew) (w58.alloc (.cells #[.int .i64 0, .int .i64 0, .slice none 0 0] 30 (0, 0))).drew := by first | exact (Below.refl _ _).alloc (Nat.le_refl _) _ | exact (show Below (w58.drew).heap.size w58.drew (w58.drew.alloc (.cells #[.int .i64 0, .int .i64 0, .slice none 0 0] 30 (0, 0))) from (Below.refl _ _).alloc (Nat.le_refl _) _)
        have haw74 : w58.heap.size ≤ w58.heap.size := Nat.le_refl _
        have hyw74 : (w58.drew).heap.size < (w58.alloc (.cells #[.int .i64 0, .int .i64 0, .slice none 0 0] 30 (0, 0))).drew.heap.size := by simp
        have Zw74 : Hid (VB (w58.alloc (.cells #[.int .i64 0, .int .i64 0, .slice none 0 0] 30 (0, 0))).drew (w58.heap.size) [.int .i64 0, .int .i64 0, .slice none 0 0]) := Lib.hid (by first | exact VB.new (cs := [.int .i64 0, .int .i64 0, .slice none 0 0]) rfl | exact VB.drew (VB.new (cs := [.int .i64 0, .int .i64 0, .slice none 0 0]) rfl))
        generalize (w58.alloc (.cells #[.int .i64 0, .int .i64 0, .slice none 0 0] 30 (0, 0))).drew = w74 at *
        have bbw74 := Lib.hid (later bbw59.out hbw74)
        have hzw74 := hbw74.size
        have Va0w74 := Lib.hid (Va0w59.out.step hbw74)
        have Va1w74 := Lib.hid (Va1w59.out.step hbw74)
        have Va2w74 := Lib.hid (Va2w59.out.step hbw74)
        have Vww74 := Lib.hid (Vww59.out.step hbw74)
        have Vxw74 := Lib.hid (Vxw59.out.step hbw74)
        have Vyw74 := Lib.hid (Vyw59.out.step hbw74)
        have Vzw74 := Lib.hid (Vzw59.out.step hbw74)
        have Vgw74 := Lib.hid (Vgw59.out.step hbw74)
        clear Va0w59
        clear Va1w59
        clear Va2w59
        clear Vww59
        clear Vxw59
        clear Vyw59
        clear Vzw59
        clear Vgw59
        obtain ⟨la0w74, ca0w74_0, ca0w74_1, ca0w74_2, fa0w74_0, fa0w74_1, fa0w74_2⟩ := Va0w74.out.open3
        obtain ⟨la1w74, ca1w74_0, ca1w74_1, ca1w74_2, fa1w74_0, fa1w74_1, fa1w74_2⟩ := Va1w74.out.open3
        obtain ⟨la2w74, ca2w74_0, fa2w74_0⟩ := Va2w74.out.open1
        obtain ⟨lww74, cww74_0, cww74_1, cww74_2, fww74_0, fww74_1, fww74_2⟩ := Vww74.out.open3
        obtain ⟨lxw74, cxw74_0, cxw74_1, cxw74_2, fxw74_0, fxw74_1, fxw74_2⟩ := Vxw74.out.open3
        obtain ⟨lyw74, cyw74_0, cyw74_1, cyw74_2, fyw74_0, fyw74_1, fyw74_2⟩ := Vyw74.out.open3
        obtain ⟨lzw74, czw74_0, fzw74_0⟩ := Vzw74.out.open1
        obtain ⟨lgw74, cgw74_0, cgw74_1, cgw74_2, fgw74_0, fgw74_1, fgw74_2⟩ := Vgw74.out.open3
        have bjw74 := Lib.hid (later bjw59.out hbw74)
        clear la0w74 ca0w74_0 ca0w74_1 ca0w74_2 fa0w74_0 fa0w74_1 fa0w74_2 la1w74 ca1w74_0 ca1w74_1 ca1w74_2 fa1w74_0 fa1w74_1 fa1w74_2 la2w74 ca2w74_0 fa2w74_0 lww74 cww74_0 cww74_1 cww74_2 fww74_0 fww74_1 fww74_2 lxw74 cxw74_0 cxw74_1 cxw74_2 fxw74_0 fxw74_1 fxw74_2 lyw74 cyw74_0 cyw74_1 cyw74_2 fyw74_0 fyw74_1 fyw74_2 lzw74 czw74_0 fzw74_0 lgw74 cgw74_0 cgw74_1 cgw74_2 fgw74_0 fgw74_1 fgw74_2
        have Vhw74 := Zw74
        obtain ⟨la0w74, ca0w74_0, ca0w74_1, ca0w74_2, fa0w74_0, fa0w74_1, fa0w74_2⟩ := Va0w74.out.open3
        obtain ⟨la1w74, ca1w74_0, ca1w74_1, ca1w74_2, fa1w74_0, fa1w74_1, fa1w74_2⟩ := Va1w74.out.open3
        obtain ⟨la2w74, ca2w74_0, fa2w74_0⟩ := Va2w74.out.open1
        obtain ⟨lww74, cww74_0, cww74_1, cww74_2, fww74_0, fww74_1, fww74_2⟩ := Vww74.out.open3
        obtain ⟨lxw74, cxw74_0, cxw74_1, cxw74_2, fxw74_0, fxw74_1, fxw74_2⟩ := Vxw74.out.open3
        obtain ⟨lyw74, cyw74_0, cyw74_1, cyw74_2, fyw74_0, fyw74_1, fyw74_2⟩ := Vyw74.out.open3
        obtain ⟨lzw74, czw74_0, fzw74_0⟩ := Vzw74.out.open1
        obtain ⟨lgw74, cgw74_0, cgw74_1, cgw74_2, fgw74_0, fgw74_1, fgw74_2⟩ := Vgw74.out.open3
        obtain ⟨lhw74, chw74_0, chw74_1, chw74_2, fhw74_0, fhw74_1, fhw74_2⟩ := Vhw74.out.open3
        have B9 := hbw74
        refine hK.out _ _ ?_ (fun hHeld => ?_)
        · (first | exact ⟨VB.step (hHeld.1) B9, VB.step (hHeld.2.1) B9, VB.step (hHeld.2.2) B9⟩ | exact ⟨VB.drew Va0w58.out, VB.drew Va1w58.out, VB.drew Va2w58.out⟩)
        clear hK K
        try simp only [Act.put, List.setIfInBounds_toArray, List.set_cons_zero, List.set_cons_succ]
        refine readyL (rs := [1]) (by kernel_rfl) (by simp) ?_
        refine AllReadyL.cons (o := ?_) ?_ (fun K hK => ?_) AllReadyL.none_
        rotate_left
        · (simp only [List.getElem?_toArray, List.getElem?_cons_succ, List.getElem?_cons_zero]; rfl)
        go_simp
        go_at_call 8
        ((with_reducible refine (toImage_any _ _ _ _ _ zs0 _ (arg0.out.below bbw74.out) L0.out hsm0).mono ?_))
        rintro e w75 ⟨Aw75, kw75, rfl, Ow75, hbw75⟩
        have Pw75 := Lib.hid Ow75
        clear Ow75
        clear la0w74 ca0w74_0 ca0w74_1 ca0w74_2 fa0w74_0 fa0w74_1 fa0w74_2 la1w74 ca1w74_0 ca1w74_1 ca1w74_2 fa1w74_0 fa1w74_1 fa1w74_2 la2w74 ca2w74_0 fa2w74_0 lww74 cww74_0 cww74_1 cww74_2 fww74_0 fww74_1 fww74_2 lxw74 cxw74_0 cxw74_1 cxw74_2 fxw74_0 fxw74_1 fxw74_2 lyw74 cyw74_0 cyw74_1 cyw74_2 fyw74_0 fyw74_1 fyw74_2 lzw74 czw74_0 fzw74_0 lgw74 cgw74_0 cgw74_1 cgw74_2 fgw74_0 fgw74_1 fgw74_2 lhw74 chw74_0 chw74_1 chw74_2 fhw74_0 fhw74_1 fhw74_2
        have bbw75 := Lib.hid (later bbw74.out hbw75)
        have hzw75 := hbw75.size
        have Va0w75 := Lib.hid (Va0w74.out.step hbw75)
        have Va1w75 := Lib.hid (Va1w74.out.step hbw75)
        have Va2w75 := Lib.hid (Va2w74.out.step hbw75)
        have Vww75 := Lib.hid (Vww74.out.step hbw75)
        have Vxw75 := Lib.hid (Vxw74.out.step hbw75)
        have Vyw75 := Lib.hid (Vyw74.out.step hbw75)
        have Vzw75 := Lib.hid (Vzw74.out.step hbw75)
        have Vgw75 := Lib.hid (Vgw74.out.step hbw75)
        have Vhw75 := Lib.hid (Vhw74.out.step hbw75)
        clear Va0w74
        clear Va1w74
        clear Va2w74
        clear Vww74
        clear Vxw74
        clear Vyw74
        clear Vzw74
        clear Vgw74
        clear Vhw74
        obtain ⟨la0w75, ca0w75_0, ca0w75_1, ca0w75_2, fa0w75_0, fa0w75_1, fa0w75_2⟩ := Va0w75.out.open3
        obtain ⟨la1w75, ca1w75_0, ca1w75_1, ca1w75_2, fa1w75_0, fa1w75_1, fa1w75_2⟩ := Va1w75.out.open3
        obtain ⟨la2w75, ca2w75_0, fa2w75_0⟩ := Va2w75.out.open1
        obtain ⟨lww75, cww75_0, cww75_1, cww75_2, fww75_0, fww75_1, fww75_2⟩ := Vww75.out.open3
        obtain ⟨lxw75, cxw75_0, cxw75_1, cxw75_2, fxw75_0, fxw75_1, fxw75_2⟩ := Vxw75.out.open3
        obtain ⟨lyw75, cyw75_0, cyw75_1, cyw75_2, fyw75_0, fyw75_1, fyw75_2⟩ := Vyw75.out.open3
        obtain ⟨lzw75, czw75_0, fzw75_0⟩ := Vzw75.out.open1
        obtain ⟨lgw75, cgw75_0, cgw75_1, cgw75_2, fgw75_0, fgw75_1, fgw75_2⟩ := Vgw75.out.open3
        obtain ⟨lhw75, chw75_0, chw75_1, chw75_2, fhw75_0, fhw75_1, fhw75_2⟩ := Vhw75.out.open3
        have Isw75 := Pw75
        clear Pw75
        have bjw75 := Lib.hid (later bjw74.out hbw75)
        have B9 := hbw75
        refine hK.out _ _ ?_ (fun hHeld => ?_)
        · (first | exact ⟨VB.step (hHeld.1) B9, VB.step (hHeld.2.1) B9, VB.step (hHeld.2.2) B9⟩ | exact ⟨VB.drew Va0w58.out, VB.drew Va1w58.out, VB.drew Va2w58.out⟩)
        clear hK K
        try simp only [Act.put, List.setIfInBounds_toArray, List.set_cons_zero, List.set_cons_succ]
        refine readyL (rs := [3]) (by kernel_rfl) (by simp) ?_
        refine AllReadyL.cons (o := ?_) ?_ (fun K hK => ?_) AllReadyL.none_
        rotate_left
        · (simp only [List.getElem?_toArray, List.getElem?_cons_succ, List.getElem?_cons_zero]; rfl)
        go_simp
        go_at_call 8
        ((with_reducible refine (toImage_any _ _ _ _ _ zs1 _ (arg1.out.below bbw75.out) L1.out hsm1).mono ?_))
        rintro e w76 ⟨Aw76, kw76, rfl, Ow76, hbw76⟩
        have Pw76 := Lib.hid Ow76
        clear Ow76
        clear la0w75 ca0w75_0 ca0w75_1 ca0w75_2 fa0w75_0 fa0w75_1 fa0w75_2 la1w75 ca1w75_0 ca1w75_1 ca1w75_2 fa1w75_0 fa1w75_1 fa1w75_2 la2w75 ca2w75_0 fa2w75_0 lww75 cww75_0 cww75_1 cww75_2 fww75_0 fww75_1 fww75_2 lxw75 cxw75_0 cxw75_1 cxw75_2 fxw75_0 fxw75_1 fxw75_2 lyw75 cyw75_0 cyw75_1 cyw75_2 fyw75_0 fyw75_1 fyw75_2 lzw75 czw75_0 fzw75_0 lgw75 cgw75_0 cgw75_1 cgw75_2 fgw75_0 fgw75_1 fgw75_2 lhw75 chw75_0 chw75_1 chw75_2 fhw75_0 fhw75_1 fhw75_2
        have bbw76 := Lib.hid (later bbw75.out hbw76)
        have hzw76 := hbw76.size
        have Va0w76 := Lib.hid (Va0w75.out.step hbw76)
        have Va1w76 := Lib.hid (Va1w75.out.step hbw76)
        have Va2w76 := Lib.hid (Va2w75.out.step hbw76)
        have Vww76 := Lib.hid (Vww75.out.step hbw76)
        have Vxw76 := Lib.hid (Vxw75.out.step hbw76)
        have Vyw76 := Lib.hid (Vyw75.out.step hbw76)
        have Vzw76 := Lib.hid (Vzw75.out.step hbw76)
        have Vgw76 := Lib.hid (Vgw75.out.step hbw76)
        have Vhw76 := Lib.hid (Vhw75.out.step hbw76)
        have Isw76 : Hid _ := Lib.hid (Isw75.out.step hbw76)
        clear Va0w75
        clear Va1w75
        clear Va2w75
        clear Vww75
        clear Vxw75
        clear Vyw75
        clear Vzw75
        clear Vgw75
        clear Vhw75
        clear Isw75
        obtain ⟨la0w76, ca0w76_0, ca0w76_1, ca0w76_2, fa0w76_0, fa0w76_1, fa0w76_2⟩ := Va0w76.out.open3
        obtain ⟨la1w76, ca1w76_0, ca1w76_1, ca1w76_2, fa1w76_0, fa1w76_1, fa1w76_2⟩ := Va1w76.out.open3
        obtain ⟨la2w76, ca2w76_0, fa2w76_0⟩ := Va2w76.out.open1
        obtain ⟨lww76, cww76_0, cww76_1, cww76_2, fww76_0, fww76_1, fww76_2⟩ := Vww76.out.open3
        obtain ⟨lxw76, cxw76_0, cxw76_1, cxw76_2, fxw76_0, fxw76_1, fxw76_2⟩ := Vxw76.out.open3
        obtain ⟨lyw76, cyw76_0, cyw76_1, cyw76_2, fyw76_0, fyw76_1, fyw76_2⟩ := Vyw76.out.open3
        obtain ⟨lzw76, czw76_0, fzw76_0⟩ := Vzw76.out.open1
        obtain ⟨lgw76, cgw76_0, cgw76_1, cgw76_2, fgw76_0, fgw76_1, fgw76_2⟩ := Vgw76.out.open3
        obtain ⟨lhw76, chw76_0, chw76_1, chw76_2, fhw76_0, fhw76_1, fhw76_2⟩ := Vhw76.out.open3
        have Itw76 := Pw76
        clear Pw76
        have bjw76 := Lib.hid (later bjw75.out hbw76)
        have B9 := hbw76
        refine hK.out _ _ ?_ (fun hHeld => ?_)
        · (first | exact ⟨VB.step (hHeld.1) B9, VB.step (hHeld.2.1) B9, VB.step (hHeld.2.2) B9⟩ | exact ⟨VB.drew Va0w58.out, VB.drew Va1w58.out, VB.drew Va2w58.out⟩)
        clear hK K
        try simp only [Act.put, List.setIfInBounds_toArray, List.set_cons_zero, List.set_cons_succ]
        refine readyL (rs := [5]) (by kernel_rfl) (by simp) ?_
        refine AllReadyL.cons (o := ?_) ?_ (fun K hK => ?_) AllReadyL.none_
        rotate_left
        · (simp only [List.getElem?_toArray, List.getElem?_cons_succ, List.getElem?_cons_zero]; rfl)
        go_simp
        go_at_call 17
        ((with_reducible refine (toRegion_any _ _ _ zs2 _ (arg2.out.below bbw76.out) L2.out hsm2).mono ?_))
        rintro e w77 ⟨Aw77, kw77, rfl, Ow77, hbw77⟩
        have Pw77 := Lib.hid Ow77
        clear Ow77
        clear la0w76 ca0w76_0 ca0w76_1 ca0w76_2 fa0w76_0 fa0w76_1 fa0w76_2 la1w76 ca1w76_0 ca1w76_1 ca1w76_2 fa1w76_0 fa1w76_1 fa1w76_2 la2w76 ca2w76_0 fa2w76_0 lww76 cww76_0 cww76_1 cww76_2 fww76_0 fww76_1 fww76_2 lxw76 cxw76_0 cxw76_1 cxw76_2 fxw76_0 fxw76_1 fxw76_2 lyw76 cyw76_0 cyw76_1 cyw76_2 fyw76_0 fyw76_1 fyw76_2 lzw76 czw76_0 fzw76_0 lgw76 cgw76_0 cgw76_1 cgw76_2 fgw76_0 fgw76_1 fgw76_2 lhw76 chw76_0 chw76_1 chw76_2 fhw76_0 fhw76_1 fhw76_2
        have bbw77 := Lib.hid (later bbw76.out hbw77)
        have hzw77 := hbw77.size
        have Va0w77 := Lib.hid (Va0w76.out.step hbw77)
        have Va1w77 := Lib.hid (Va1w76.out.step hbw77)
        have Va2w77 := Lib.hid (Va2w76.out.step hbw77)
        have Vww77 := Lib.hid (Vww76.out.step hbw77)
        have Vxw77 := Lib.hid (Vxw76.out.step hbw77)
        have Vyw77 := Lib.hid (Vyw76.out.step hbw77)
        have Vzw77 := Lib.hid (Vzw76.out.step hbw77)
        have Vgw77 := Lib.hid (Vgw76.out.step hbw77)
        have Vhw77 := Lib.hid (Vhw76.out.step hbw77)
        have Isw77 : Hid _ := Lib.hid (Isw76.out.step hbw77)
        have Itw77 : Hid _ := Lib.hid (Itw76.out.step hbw77)
        clear Va0w76
        clear Va1w76
        clear Va2w76
        clear Vww76
        clear Vxw76
        clear Vyw76
        clear Vzw76
        clear Vgw76
        clear Vhw76
        clear Isw76
        clear Itw76
        obtain ⟨la0w77, ca0w77_0, ca0w77_1, ca0w77_2, fa0w77_0, fa0w77_1, fa0w77_2⟩ := Va0w77.out.open3
        obtain ⟨la1w77, ca1w77_0, ca1w77_1, ca1w77_2, fa1w77_0, fa1w77_1, fa1w77_2⟩ := Va1w77.out.open3
        obtain ⟨la2w77, ca2w77_0, fa2w77_0⟩ := Va2w77.out.open1
        obtain ⟨lww77, cww77_0, cww77_1, cww77_2, fww77_0, fww77_1, fww77_2⟩ := Vww77.out.open3
        obtain ⟨lxw77, cxw77_0, cxw77_1, cxw77_2, fxw77_0, fxw77_1, fxw77_2⟩ := Vxw77.out.open3
        obtain ⟨lyw77, cyw77_0, cyw77_1, cyw77_2, fyw77_0, fyw77_1, fyw77_2⟩ := Vyw77.out.open3
        obtain ⟨lzw77, czw77_0, fzw77_0⟩ := Vzw77.out.open1
        obtain ⟨lgw77, cgw77_0, cgw77_1, cgw77_2, fgw77_0, fgw77_1, fgw77_2⟩ := Vgw77.out.open3
        obtain ⟨lhw77, chw77_0, chw77_1, chw77_2, fhw77_0, fhw77_1, fhw77_2⟩ := Vhw77.out.open3
        have Irw77 := Pw77
        clear Pw77
        have bjw77 := Lib.hid (later bjw76.out hbw77)
        have B9 := hbw77
        refine hK.out _ _ ?_ (fun hHeld => ?_)
        · (first | exact ⟨VB.step (hHeld.1) B9, VB.step (hHeld.2.1) B9, VB.step (hHeld.2.2) B9⟩ | exact ⟨VB.drew Va0w58.out, VB.drew Va1w58.out, VB.drew Va2w58.out⟩)
        clear hK K
        try simp only [Act.put, List.setIfInBounds_toArray, List.set_cons_zero, List.set_cons_succ]
        refine readyL (rs := [6]) (by kernel_rfl) (by simp) ?_
        refine AllReadyL.cons (o := ?_) ?_ (fun K hK => ?_) AllReadyL.none_
        rotate_left
        · (simp only [List.getElem?_toArray, List.getElem?_cons_succ, List.getElem?_cons_zero]; rfl)
        go_simp
        go_at_call 18
        ((with_reducible refine (implCopyRegion ix0 iy0 ix1 iy1 _ _ _ _ _ _ _ _ _ _ _ _ _ zs0 zs1 zs2 _ Isw77.out Itw77.out (Recs.arg Irw77.out) rfl hN0 (by omega)).mono ?_))
        rintro e w78 ⟨Aw78, kw78, rfl, Ow78, hbw78⟩
        have Pw78 := Lib.hid Ow78
        clear Ow78
        clear la0w77 ca0w77_0 ca0w77_1 ca0w77_2 fa0w77_0 fa0w77_1 fa0w77_2 la1w77 ca1w77_0 ca1w77_1 ca1w77_2 fa1w77_0 fa1w77_1 fa1w77_2 la2w77 ca2w77_0 fa2w77_0 lww77 cww77_0 cww77_1 cww77_2 fww77_0 fww77_1 fww77_2 lxw77 cxw77_0 cxw77_1 cxw77_2 fxw77_0 fxw77_1 fxw77_2 lyw77 cyw77_0 cyw77_1 cyw77_2 fyw77_0 fyw77_1 fyw77_2 lzw77 czw77_0 fzw77_0 lgw77 cgw77_0 cgw77_1 cgw77_2 fgw77_0 fgw77_1 fgw77_2 lhw77 chw77_0 chw77_1 chw77_2 fhw77_0 fhw77_1 fhw77_2
        have bbw78 := Lib.hid (later bbw77.out hbw78)
        have hzw78 := hbw78.size
        have Va0w78 := Lib.hid (Va0w77.out.step hbw78)
        have Va1w78 := Lib.hid (Va1w77.out.step hbw78)
        have Va2w78 := Lib.hid (Va2w77.out.step hbw78)
        have Vww78 := Lib.hid (Vww77.out.step hbw78)
        have Vxw78 := Lib.hid (Vxw77.out.step hbw78)
        have Vyw78 := Lib.hid (Vyw77.out.step hbw78)
        have Vzw78 := Lib.hid (Vzw77.out.step hbw78)
        have Vgw78 := Lib.hid (Vgw77.out.step hbw78)
        have Vhw78 := Lib.hid (Vhw77.out.step hbw78)
        have Isw78 : Hid _ := Lib.hid (Isw77.out.step hbw78)
        have Itw78 : Hid _ := Lib.hid (Itw77.out.step hbw78)
        have Irw78 : Hid _ := Lib.hid (Irw77.out.step hbw78)
        clear Va0w77
        clear Va1w77
        clear Va2w77
        clear Vww77
        clear Vxw77
        clear Vyw77
        clear Vzw77
        clear Vgw77
        clear Vhw77
        clear Isw77
        clear Itw77
        clear Irw77
        obtain ⟨la0w78, ca0w78_0, ca0w78_1, ca0w78_2, fa0w78_0, fa0w78_1, fa0w78_2⟩ := Va0w78.out.open3
        obtain ⟨la1w78, ca1w78_0, ca1w78_1, ca1w78_2, fa1w78_0, fa1w78_1, fa1w78_2⟩ := Va1w78.out.open3
        obtain ⟨la2w78, ca2w78_0, fa2w78_0⟩ := Va2w78.out.open1
        obtain ⟨lww78, cww78_0, cww78_1, cww78_2, fww78_0, fww78_1, fww78_2⟩ := Vww78.out.open3
        obtain ⟨lxw78, cxw78_0, cxw78_1, cxw78_2, fxw78_0, fxw78_1, fxw78_2⟩ := Vxw78.out.open3
        obtain ⟨lyw78, cyw78_0, cyw78_1, cyw78_2, fyw78_0, fyw78_1, fyw78_2⟩ := Vyw78.out.open3
        obtain ⟨lzw78, czw78_0, fzw78_0⟩ := Vzw78.out.open1
        obtain ⟨lgw78, cgw78_0, cgw78_1, cgw78_2, fgw78_0, fgw78_1, fgw78_2⟩ := Vgw78.out.open3
        obtain ⟨lhw78, chw78_0, chw78_1, chw78_2, fhw78_0, fhw78_1, fhw78_2⟩ := Vhw78.out.open3
        have Ih'w78 := Pw78
        clear Pw78
        have bjw78 := Lib.hid (later bjw77.out hbw78)
        have B9 := hbw78
        refine hK.out _ _ ?_ (fun hHeld => ?_)
        · (first | exact ⟨VB.step (hHeld.1) B9, VB.step (hHeld.2.1) B9, VB.step (hHeld.2.2) B9⟩ | exact ⟨VB.drew Va0w58.out, VB.drew Va1w58.out, VB.drew Va2w58.out⟩)
        clear hK K
        try simp only [Act.put, List.setIfInBounds_toArray, List.set_cons_zero, List.set_cons_succ]
        refine readyL (rs := [8]) (by kernel_rfl) (by simp) ?_
        refine AllReadyL.last (o := ?_) ?_ (fun K hK => ?_)
        rotate_left
        · (simp only [List.getElem?_toArray, List.getElem?_cons_succ, List.getElem?_cons_zero]; rfl)
        go_simp
        refine hK.out _ _ ?_
        clear hK K
        try simp only [Act.put, List.setIfInBounds_toArray, List.set_cons_zero, List.set_cons_succ]
        refine doneL (by kernel_rfl) ?_ _
        go_wp2_with fail
        go_meet
        have e1 : w58.heap.size ≤ w77.heap.size := bjw77.out.size
        have e2 : w78.heap.size ≤ w78.heap.size := Ih'w78.out.hi_le
        case rel => exact ⟨w58.heap.size, rfl, Aw78, kw78, w77.heap.size, w78.heap.size, by omega, e1, Nat.le_trans e2 (Nat.le_of_eq (by simp [World.setCell])), by omega, ((Vhw78.out.set 0 _).set 1 _).set 2 _, Ints.setc3 Ih'w78.out (b := w58.heap.size) (by omega) _ _ _, ((bjw78.out.setCell (by show w58.heap.size ≤ w58.heap.size; omega) _).setCell (by show w58.heap.size ≤ w58.heap.size; omega) _).setCell (by show w58.heap.size ≤ w58.heap.size; omega) _⟩
      exact AllReadyL.none_
    case rest =>
      obtain ⟨bkw79, rfl, Aw79, kw79, low79, hiw79, p1w79, p2w79, p3w79, p4w79, VVw79, IIw79, hbw79⟩ := hcut
      obtain ⟨w79, rfl⟩ : ∃ w79 : World, w79 = wc := ⟨_, rfl⟩
      clear la0w58 ca0w58_0 ca0w58_1 ca0w58_2 fa0w58_0 fa0w58_1 fa0w58_2 la1w58 ca1w58_0 ca1w58_1 ca1w58_2 fa1w58_0 fa1w58_1 fa1w58_2 la2w58 ca2w58_0 fa2w58_0 lww58 cww58_0 cww58_1 cww58_2 fww58_0 fww58_1 fww58_2 lxw58 cxw58_0 cxw58_1 cxw58_2 fxw58_0 fxw58_1 fxw58_2 lyw58 cyw58_0 cyw58_1 cyw58_2 fyw58_0 fyw58_1 fyw58_2 lzw58 czw58_0 fzw58_0 lgw58 cgw58_0 cgw58_1 cgw58_2 fgw58_0 fgw58_1 fgw58_2
      have bbw79 := Lib.hid (later bbw58.out hbw79)
      have hzw79 := hbw79.size
      have Va0w79 := Lib.hid (Va0w58.out.step hbw79)
      have Va1w79 := Lib.hid (Va1w58.out.step hbw79)
      have Va2w79 := Lib.hid (Va2w58.out.step hbw79)
      have Vww79 := Lib.hid (Vww58.out.step hbw79)
      have Vxw79 := Lib.hid (Vxw58.out.step hbw79)
      have Vyw79 := Lib.hid (Vyw58.out.step hbw79)
      have Vzw79 := Lib.hid (Vzw58.out.step hbw79)
      have Vgw79 := Lib.hid (Vgw58.out.step hbw79)
      have Iww79 : Hid _ := Lib.hid (Iww58.out.step hbw79)
      have Ixw79 : Hid _ := Lib.hid (Ixw58.out.step hbw79)
      have Iyw79 : Hid _ := Lib.hid (Iyw58.out.step hbw79)
      have Izw79 : Hid _ := Lib.hid (Izw58.out.step hbw79)
      have Igw79 : Hid _ := Lib.hid (Igw58.out.step hbw79)
      clear Va0w58
      clear Va1w58
      clear Va2w58
      clear Vww58
      clear Vxw58
      clear Vyw58
      clear Vzw58
      clear Vgw58
      clear Iww58
      clear Ixw58
      clear Iyw58
      clear Izw58
      clear Igw58
      obtain ⟨la0w79, ca0w79_0, ca0w79_1, ca0w79_2, fa0w79_0, fa0w79_1, fa0w79_2⟩ := Va0w79.out.open3
      obtain ⟨la1w79, ca1w79_0, ca1w79_1, ca1w79_2, fa1w79_0, fa1w79_1, fa1w79_2⟩ := Va1w79.out.open3
      obtain ⟨la2w79, ca2w79_0, fa2w79_0⟩ := Va2w79.out.open1
      obtain ⟨lww79, cww79_0, cww79_1, cww79_2, fww79_0, fww79_1, fww79_2⟩ := Vww79.out.open3
      obtain ⟨lxw79, cxw79_0, cxw79_1, cxw79_2, fxw79_0, fxw79_1, fxw79_2⟩ := Vxw79.out.open3
      obtain ⟨lyw79, cyw79_0, cyw79_1, cyw79_2, fyw79_0, fyw79_1, fyw79_2⟩ := Vyw79.out.open3
      obtain ⟨lzw79, czw79_0, fzw79_0⟩ := Vzw79.out.open1
      obtain ⟨lgw79, cgw79_0, cgw79_1, cgw79_2, fgw79_0, fgw79_1, fgw79_2⟩ := Vgw79.out.open3
      clear la0w79 ca0w79_0 ca0w79_1 ca0w79_2 fa0w79_0 fa0w79_1 fa0w79_2 la1w79 ca1w79_0 ca1w79_1 ca1w79_2 fa1w79_0 fa1w79_1 fa1w79_2 la2w79 ca2w79_0 fa2w79_0 lww79 cww79_0 cww79_1 cww79_2 fww79_0 fww79_1 fww79_2 lxw79 cxw79_0 cxw79_1 cxw79_2 fxw79_0 fxw79_1 fxw79_2 lyw79 cyw79_0 cyw79_1 cyw79_2 fyw79_0 fyw79_1 fyw79_2 lzw79 czw79_0 fzw79_0 lgw79 cgw79_0 cgw79_1 cgw79_2 fgw79_0 fgw79_1 fgw79_2
      have Vhw79 := Lib.hid VVw79
      have tw79 := Vhw79.out.lt
      have Ihw79 := Lib.hid IIw79
      clear VVw79 IIw79
      obtain ⟨la0w79, ca0w79_0, ca0w79_1, ca0w79_2, fa0w79_0, fa0w79_1, fa0w79_2⟩ := Va0w79.out.open3
      obtain ⟨la1w79, ca1w79_0, ca1w79_1, ca1w79_2, fa1w79_0, fa1w79_1, fa1w79_2⟩ := Va1w79.out.open3
      obtain ⟨la2w79, ca2w79_0, fa2w79_0⟩ := Va2w79.out.open1
      obtain ⟨lww79, cww79_0, cww79_1, cww79_2, fww79_0, fww79_1, fww79_2⟩ := Vww79.out.open3
      obtain ⟨lxw79, cxw79_0, cxw79_1, cxw79_2, fxw79_0, fxw79_1, fxw79_2⟩ := Vxw79.out.open3
      obtain ⟨lyw79, cyw79_0, cyw79_1, cyw79_2, fyw79_0, fyw79_1, fyw79_2⟩ := Vyw79.out.open3
      obtain ⟨lzw79, czw79_0, fzw79_0⟩ := Vzw79.out.open1
      obtain ⟨lgw79, cgw79_0, cgw79_1, cgw79_2, fgw79_0, fgw79_1, fgw79_2⟩ := Vgw79.out.open3
      obtain ⟨lhw79, chw79_0, chw79_1, chw79_2, fhw79_0, fhw79_1, fhw79_2⟩ := Vhw79.out.open3
      go_wp2_with fail
      refine (eqImage_same (Pl.copyRegion ⟨ix0, iy0, zs0⟩ ⟨ix1, iy1, zs1⟩ zs2).w (Pl.copyRegion ⟨ix0, iy0, zs0⟩ ⟨ix1, iy1, zs1⟩ zs2).h _ _ _ _ _ _ _ _ _ _ (Pl.copyRegion ⟨ix0, iy0, zs0⟩ ⟨ix1, iy1, zs1⟩ zs2).d _ Ihw79.out Iww79.out).mono ?_
      rintro e w80 ⟨rfl, hbw80⟩
      clear la0w79 ca0w79_0 ca0w79_1 ca0w79_2 fa0w79_0 fa0w79_1 fa0w79_2 la1w79 ca1w79_0 ca1w79_1 ca1w79_2 fa1w79_0 fa1w79_1 fa1w79_2 la2w79 ca2w79_0 fa2w79_0 lww79 cww79_0 cww79_1 cww79_2 fww79_0 fww79_1 fww79_2 lxw79 cxw79_0 cxw79_1 cxw79_2 fxw79_0 fxw79_1 fxw79_2 lyw79 cyw79_0 cyw79_1 cyw79_2 fyw79_0 fyw79_1 fyw79_2 lzw79 czw79_0 fzw79_0 lgw79 cgw79_0 cgw79_1 cgw79_2 fgw79_0 fgw79_1 fgw79_2 lhw79 chw79_0 chw79_1 chw79_2 fhw79_0 fhw79_1 fhw79_2
      have bbw80 := Lib.hid (later bbw79.out hbw80)
      have hzw80 := hbw80.size
      have Va0w80 := Lib.hid (Va0w79.out.step hbw80)
      have Va1w80 := Lib.hid (Va1w79.out.step hbw80)
      have Va2w80 := Lib.hid (Va2w79.out.step hbw80)
      have Vww80 := Lib.hid (Vww79.out.step hbw80)
      have Vxw80 := Lib.hid (Vxw79.out.step hbw80)
      have Vyw80 := Lib.hid (Vyw79.out.step hbw80)
      have Vzw80 := Lib.hid (Vzw79.out.step hbw80)
      have Vgw80 := Lib.hid (Vgw79.out.step hbw80)
      have Vhw80 := Lib.hid (Vhw79.out.step hbw80)
      have Iww80 : Hid _ := Lib.hid (Iww79.out.step hbw80)
      have Ixw80 : Hid _ := Lib.hid (Ixw79.out.step hbw80)
      have Iyw80 : Hid _ := Lib.hid (Iyw79.out.step hbw80)
      have Izw80 : Hid _ := Lib.hid (Izw79.out.step hbw80)
      have Igw80 : Hid _ := Lib.hid (Igw79.out.step hbw80)
      have Ihw80 : Hid _ := Lib.hid (Ihw79.out.step hbw80)
      clear Va0w79
      clear Va1w79
      clear Va2w79
      clear Vww79
      clear Vxw79
      clear Vyw79
      clear Vzw79
      clear Vgw79
      clear Vhw79
      clear Iww79
      clear Ixw79
      clear Iyw79
      clear Izw79
      clear Igw79
      clear Ihw79
      obtain ⟨la0w80, ca0w80_0, ca0w80_1, ca0w80_2, fa0w80_0, fa0w80_1, fa0w80_2⟩ := Va0w80.out.open3
      obtain ⟨la1w80, ca1w80_0, ca1w80_1, ca1w80_2, fa1w80_0, fa1w80_1, fa1w80_2⟩ := Va1w80.out.open3
      obtain ⟨la2w80, ca2w80_0, fa2w80_0⟩ := Va2w80.out.open1
      obtain ⟨lww80, cww80_0, cww80_1, cww80_2, fww80_0, fww80_1, fww80_2⟩ := Vww80.out.open3
      obtain ⟨lxw80, cxw80_0, cxw80_1, cxw80_2, fxw80_0, fxw80_1, fxw80_2⟩ := Vxw80.out.open3
      obtain ⟨lyw80, cyw80_0, cyw80_1, cyw80_2, fyw80_0, fyw80_1, fyw80_2⟩ := Vyw80.out.open3
      obtain ⟨lzw80, czw80_0, fzw80_0⟩ := Vzw80.out.open1
      obtain ⟨lgw80, cgw80_0, cgw80_1, cgw80_2, fgw80_0, fgw80_1, fgw80_2⟩ := Vgw80.out.open3
      obtain ⟨lhw80, chw80_0, chw80_1, chw80_2, fhw80_0, fhw80_1, fhw80_2⟩ := Vhw80.out.open3
      go_wp2_with fail
      refine (heldImage_same _ _ _ _ _ _ _ 1 _ Igw80.out (by omega) (by omega)).mono ?_
      rintro e w81 ⟨rfl, hbw81⟩
      clear la0w80 ca0w80_0 ca0w80_1 ca0w80_2 fa0w80_0 fa0w80_1 fa0w80_2 la1w80 ca1w80_0 ca1w80_1 ca1w80_2 fa1w80_0 fa1w80_1 fa1w80_2 la2w80 ca2w80_0 fa2w80_0 lww80 cww80_0 cww80_1 cww80_2 fww80_0 fww80_1 fww80_2 lxw80 cxw80_0 cxw80_1 cxw80_2 fxw80_0 fxw80_1 fxw80_2 lyw80 cyw80_0 cyw80_1 cyw80_2 fyw80_0 fyw80_1 fyw80_2 lzw80 czw80_0 fzw80_0 lgw80 cgw80_0 cgw80_1 cgw80_2 fgw80_0 fgw80_1 fgw80_2 lhw80 chw80_0 chw80_1 chw80_2 fhw80_0 fhw80_1 fhw80_2
      have bbw81 := Lib.hid (later bbw80.out hbw81)
      have hzw81 := hbw81.size
      have Va0w81 := Lib.hid (Va0w80.out.step hbw81)
      have Va1w81 := Lib.hid (Va1w80.out.step hbw81)
      have Va2w81 := Lib.hid (Va2w80.out.step hbw81)
      have Vww81 := Lib.hid (Vww80.out.step hbw81)
      have Vxw81 := Lib.hid (Vxw80.out.step hbw81)
      have Vyw81 := Lib.hid (Vyw80.out.step hbw81)
      have Vzw81 := Lib.hid (Vzw80.out.step hbw81)
      have Vgw81 := Lib.hid (Vgw80.out.step hbw81)
      have Vhw81 := Lib.hid (Vhw80.out.step hbw81)
      have Iww81 : Hid _ := Lib.hid (Iww80.out.step hbw81)
      have Ixw81 : Hid _ := Lib.hid (Ixw80.out.step hbw81)
      have Iyw81 : Hid _ := Lib.hid (Iyw80.out.step hbw81)
      have Izw81 : Hid _ := Lib.hid (Izw80.out.step hbw81)
      have Igw81 : Hid _ := Lib.hid (Igw80.out.step hbw81)
      have Ihw81 : Hid _ := Lib.hid (Ihw80.out.step hbw81)
      clear Va0w80
      clear Va1w80
      clear Va2w80
      clear Vww80
      clear Vxw80
      clear Vyw80
      clear Vzw80
      clear Vgw80
      clear Vhw80
      clear Iww80
      clear Ixw80
      clear Iyw80
      clear Izw80
      clear Igw80
      clear Ihw80
      obtain ⟨la0w81, ca0w81_0, ca0w81_1, ca0w81_2, fa0w81_0, fa0w81_1, fa0w81_2⟩ := Va0w81.out.open3
      obtain ⟨la1w81, ca1w81_0, ca1w81_1, ca1w81_2, fa1w81_0, fa1w81_1, fa1w81_2⟩ := Va1w81.out.open3
      obtain ⟨la2w81, ca2w81_0, fa2w81_0⟩ := Va2w81.out.open1
      obtain ⟨lww81, cww81_0, cww81_1, cww81_2, fww81_0, fww81_1, fww81_2⟩ := Vww81.out.open3
      obtain ⟨lxw81, cxw81_0, cxw81_1, cxw81_2, fxw81_0, fxw81_1, fxw81_2⟩ := Vxw81.out.open3
      obtain ⟨lyw81, cyw81_0, cyw81_1, cyw81_2, fyw81_0, fyw81_1, fyw81_2⟩ := Vyw81.out.open3
      obtain ⟨lzw81, czw81_0, fzw81_0⟩ := Vzw81.out.open1
      obtain ⟨lgw81, cgw81_0, cgw81_1, cgw81_2, fgw81_0, fgw81_1, fgw81_2⟩ := Vgw81.out.open3
      obtain ⟨lhw81, chw81_0, chw81_1, chw81_2, fhw81_0, fhw81_1, fhw81_2⟩ := Vhw81.out.open3
      go_wp2_with fail
      go_ret
      exact ⟨rfl, bbw81.out⟩
end Go.Proofs.Ytmjjepgnciibcaa
