/- The laws FnExactRegionOk, FnExactInRegion, FnExactAreaOf, FnExactBoundsOf: each returns true. -/
import Derived.Test.YtlnailpefdlnnaaSReg2
import Derived.BigQuiet
import Derived.Deep.Cut
import Derived.Deep.DeepCutAuto
import Derived.Test.YtlnailpefdlnnaaOrd
namespace Go.Proofs.Ytlnailpefdlnnaa
open Go.RowKit
set_option linter.unusedVariables false
set_option linter.unusedSimpArgs false
/-- The laws' regions, compared with their like. -/
theorem eqRegion_same (A1 A2 : Option Addr) (n m c1 c2 : Nat) (zs : List Pl.R) (w : World) (H1 : RArg w A1 zs) (H2 : RArg w A2 zs) (L1 : zs.length = n) (L2 : zs.length = m) (b1 : n ≤ 9223372036854775807) (b2 : m ≤ 9223372036854775807) :
    Calls Try.prog 17 #[.agg #[.slice A1 n c1], .agg #[.slice A2 m c2]] w fun e w' => e = .returned (.bool true) ∧ Below w.heap.size w w' := by
  have h := eqRegion_any A1 A2 n m c1 c2 zs zs w H1 H2 L1 L2 b1 b2
  simpa using h
/-- A new variable that holds a region. -/
def NewVarR (J wx : World) (b : Nat) (rs : List Pl.R) : Prop :=
  ∃ (A : Option Addr) (c lo hi : Nat), J.heap.size ≤ b ∧ J.heap.size ≤ lo ∧ hi ≤ wx.heap.size ∧ (b < lo ∨ hi ≤ b) ∧ VB wx b [.slice A rs.length c] ∧ Recs wx lo hi (.slice A rs.length c) rs ∧ Below J.heap.size J wx
theorem size_setCell_eq (w : World) (a : Addr) (v : Value) : (w.setCell a v).heap.size = w.heap.size := by simp [World.setCell]
theorem szd_small {n : Nat} {l : Int} (h : n ≤ l) : Pl.szd l n = l - n := by unfold Pl.szd; rw [if_neg (by omega)]
theorem szd_big {n : Nat} {l : Int} (h : l < n) : Pl.szd l n = -1 := by unfold Pl.szd; rw [if_pos h]
set_option maxRecDepth 100000 in
set_option maxHeartbeats 8000000 in
theorem walkFnExactRegionOk (A0 : Option Addr) (n0 c0 : Nat) (z0 : List Pl.R) (w : World) (hr0 : IsRects w A0 n0 c0 z0) : Calls Try.prog 3 #[.agg #[.slice A0 n0 c0]] w fun e w' => e = .returned (.bool true) ∧ Below w.heap.size w w' := by
  have bbw : Hid (Below w.heap.size w w) := Lib.hid (Below.refl _ _)
  obtain ⟨ha0, hl0, hm0⟩ := RArg.of_rects hr0
  generalize z0.take n0 = zs0 at *
  have arg0 := Lib.hid ha0
  have L0 := Lib.hid hl0
  clear ha0 hl0 hr0
  by_cases hbig0 : 1048576 < (n0 : Int)
  · have hs := szd_big hbig0
    have HS := Lib.hid hs
    clear hs
    go_enter Try.func3, Try.ntmps3
    go_wp2_with fail
    have Va0w1 := Lib.hid (VB.new (w := w) (b := w.heap.size) (t := 24) (cs := [.slice A0 n0 c0]) (by simp))
    have hbw1 : Below w.heap.size w (w.alloc (.cells #[.slice A0 n0 c0] 24 (0, 0))) := by go_grown
    have bbw1 : Hid (Below w.heap.size w (w.alloc (.cells #[.slice A0 n0 c0] 24 (0, 0)))) := Lib.hid (later bbw.out hbw1)
    have hzw1 : w.heap.size + 1 ≤ (w.alloc (.cells #[.slice A0 n0 c0] 24 (0, 0))).heap.size := by simp
    generalize (w.alloc (.cells #[.slice A0 n0 c0] 24 (0, 0))) = w1 at *
    obtain ⟨la0w1, ca0w1_0, fa0w1_0⟩ := Va0w1.out.open1
    refine (szRegion_any _ _ _ _ _ (by omega) (by omega) (by omega)).mono ?_
    rintro e w2 ⟨rfl, hbw2⟩
    clear la0w1 ca0w1_0 fa0w1_0
    have bbw2 := Lib.hid (later bbw1.out hbw2)
    have hzw2 := hbw2.size
    have Va0w2 := Lib.hid (Va0w1.out.step hbw2)
    clear Va0w1
    obtain ⟨la0w2, ca0w2_0, fa0w2_0⟩ := Va0w2.out.open1
    rw [HS.out]
    go_wp2_with fail
    go_ret
    exact ⟨rfl, bbw2.out⟩
  have hsm0 : n0 ≤ 1048576 := by omega
  have hN0 : zs0.length ≤ 1048576 := by rw [L0.out]; exact hsm0
  go_enter Try.func3, Try.ntmps3
  go_wp2_with fail
  have Va0w3 := Lib.hid (VB.new (w := w) (b := w.heap.size) (t := 24) (cs := [.slice A0 n0 c0]) (by simp))
  have hbw3 : Below w.heap.size w (w.alloc (.cells #[.slice A0 n0 c0] 24 (0, 0))) := by go_grown
  have bbw3 : Hid (Below w.heap.size w (w.alloc (.cells #[.slice A0 n0 c0] 24 (0, 0)))) := Lib.hid (later bbw.out hbw3)
  have hzw3 : w.heap.size + 1 ≤ (w.alloc (.cells #[.slice A0 n0 c0] 24 (0, 0))).heap.size := by simp
  generalize (w.alloc (.cells #[.slice A0 n0 c0] 24 (0, 0))) = w3 at *
  obtain ⟨la0w3, ca0w3_0, fa0w3_0⟩ := Va0w3.out.open1
  refine (szRegion_any _ _ _ _ _ (by omega) (by omega) (by omega)).mono ?_
  rintro e w4 ⟨rfl, hbw4⟩
  clear la0w3 ca0w3_0 fa0w3_0
  have bbw4 := Lib.hid (later bbw3.out hbw4)
  have hzw4 := hbw4.size
  have Va0w4 := Lib.hid (Va0w3.out.step hbw4)
  clear Va0w3
  obtain ⟨la0w4, ca0w4_0, fa0w4_0⟩ := Va0w4.out.open1
  rw [szd_small (by omega)]
  go_wp2_with fail
  refine (toRegion_any _ _ _ zs0 _ (arg0.out.below bbw4.out) L0.out hsm0).mono ?_
  rintro e w5 ⟨Aw5, kw5, rfl, Ow5, hbw5⟩
  have Pw5 := Lib.hid Ow5
  clear Ow5
  clear la0w4 ca0w4_0 fa0w4_0
  have bbw5 := Lib.hid (later bbw4.out hbw5)
  have hzw5 := hbw5.size
  have Va0w5 := Lib.hid (Va0w4.out.step hbw5)
  clear Va0w4
  obtain ⟨la0w5, ca0w5_0, fa0w5_0⟩ := Va0w5.out.open1
  have Iuw5 := Pw5
  clear Pw5
  go_wp2_with fail
  refine (specRegionOk _ _ _ zs0 _ (Recs.arg Iuw5.out) rfl (by omega)).mono ?_
  rintro e w6 ⟨rfl, hbw6⟩
  clear la0w5 ca0w5_0 fa0w5_0
  have bbw6 := Lib.hid (later bbw5.out hbw6)
  have hzw6 := hbw6.size
  have Va0w6 := Lib.hid (Va0w5.out.step hbw6)
  have Iuw6 : Hid _ := Lib.hid (Iuw5.out.step hbw6)
  clear Va0w5
  clear Iuw5
  obtain ⟨la0w6, ca0w6_0, fa0w6_0⟩ := Va0w6.out.open1
  go_wp2_with fail
  refine (toRegion_any _ _ _ zs0 _ (arg0.out.below bbw6.out) L0.out hsm0).mono ?_
  rintro e w7 ⟨Aw7, kw7, rfl, Ow7, hbw7⟩
  have Pw7 := Lib.hid Ow7
  clear Ow7
  clear la0w6 ca0w6_0 fa0w6_0
  have bbw7 := Lib.hid (later bbw6.out hbw7)
  have hzw7 := hbw7.size
  have Va0w7 := Lib.hid (Va0w6.out.step hbw7)
  have Iuw7 : Hid _ := Lib.hid (Iuw6.out.step hbw7)
  clear Va0w6
  clear Iuw6
  obtain ⟨la0w7, ca0w7_0, fa0w7_0⟩ := Va0w7.out.open1
  have Ixw7 := Pw7
  clear Pw7
  go_wp2_with fail
  clear la0w7 ca0w7_0 fa0w7_0
  have Va0w8 := Lib.hid ((Va0w7.out).alloc (.cells #[.slice Aw7 zs0.length kw7] 29 (0, 0)))
  have Iuw8 : Hid _ := Lib.hid ((Iuw7.out).alloc (.cells #[.slice Aw7 zs0.length kw7] 29 (0, 0)))
  have Ixw8 : Hid _ := Lib.hid ((Ixw7.out).alloc (.cells #[.slice Aw7 zs0.length kw7] 29 (0, 0)))
  have Vxw8 := Lib.hid (VB.new (w := w7) (b := w7.heap.size) (t := 29) (cs := [.slice Aw7 zs0.length kw7]) (by simp))
  have hbw8 : Below w7.heap.size w7 (w7.alloc (.cells #[.slice Aw7 zs0.length kw7] 29 (0, 0))) := by go_grown
  have bbw8 : Hid (Below w.heap.size w (w7.alloc (.cells #[.slice Aw7 zs0.length kw7] 29 (0, 0)))) := Lib.hid (later bbw7.out hbw8)
  have hzw8 : w7.heap.size + 1 ≤ (w7.alloc (.cells #[.slice Aw7 zs0.length kw7] 29 (0, 0))).heap.size := by simp
  generalize (w7.alloc (.cells #[.slice Aw7 zs0.length kw7] 29 (0, 0))) = w8 at *
  obtain ⟨la0w8, ca0w8_0, fa0w8_0⟩ := Va0w8.out.open1
  obtain ⟨lxw8, cxw8_0, fxw8_0⟩ := Vxw8.out.open1
  refine (implRegionOk _ _ _ zs0 _ (Recs.arg Ixw8.out) rfl (by omega)).mono ?_
  rintro e w9 ⟨rfl, hbw9⟩
  clear la0w8 ca0w8_0 fa0w8_0 lxw8 cxw8_0 fxw8_0
  have bbw9 := Lib.hid (later bbw8.out hbw9)
  have hzw9 := hbw9.size
  have Va0w9 := Lib.hid (Va0w8.out.step hbw9)
  have Vxw9 := Lib.hid (Vxw8.out.step hbw9)
  have Iuw9 : Hid _ := Lib.hid (Iuw8.out.step hbw9)
  have Ixw9 : Hid _ := Lib.hid (Ixw8.out.step hbw9)
  clear Va0w8
  clear Vxw8
  clear Iuw8
  clear Ixw8
  obtain ⟨la0w9, ca0w9_0, fa0w9_0⟩ := Va0w9.out.open1
  obtain ⟨lxw9, cxw9_0, fxw9_0⟩ := Vxw9.out.open1
  go_wp2_with fail
  clear la0w9 ca0w9_0 fa0w9_0 lxw9 cxw9_0 fxw9_0
  have bbw10 : Hid (Below w.heap.size w w9.drew) := Lib.hid (Below.drew bbw9.out)
  have hzw10 : w9.heap.size ≤ w9.drew.heap.size := Nat.le_refl _
  have Va0w10 := Lib.hid (VB.drew Va0w9.out)
  have Vxw10 := Lib.hid (VB.drew Vxw9.out)
  have Iuw10 : Hid _ := Lib.hid (show Recs w9.drew _ _ _ _ from Iuw9.out)
  have Ixw10 : Hid _ := Lib.hid (show Recs w9.drew _ _ _ _ from Ixw9.out)
  refine regionL (S := (fun w' => VB w' (w7.heap.size) [.slice Aw7 zs0.length kw7] ∧ VB w' (w.heap.size) [.slice A0 n0 c0])) (L := 5) (by kernel_rfl) ?_ (fun hHeld => ?_)
  · (first | exact ⟨VB.step (hHeld.1) B9, VB.step (hHeld.2) B9⟩ | exact ⟨VB.alloc (hHeld.1) _, VB.alloc (hHeld.2) _⟩ | exact ⟨VB.drew (VB.alloc (show VB w9 _ _ from hHeld.1) _), VB.drew (VB.alloc (show VB w9 _ _ from hHeld.2) _)⟩ | exact ⟨VB.drew Vxw9.out, VB.drew Va0w9.out⟩)
  refine takeL (i := 0) (oi := ?_) (v := ?_) ?_ (by kernel_rfl) (by kernel_rfl) (by kernel_rfl) (by kernel_rfl) ?_ (Or.inl ⟨?_, ?_⟩) (by assumption) ?_
  rotate_left 2
  · (simp only [List.getElem?_toArray, List.getElem?_cons_succ, List.getElem?_cons_zero]; rfl)
  · exact fun _ _ _ h => h
  · rfl
  · (intro w hSw; (try dsimp only at hSw); obtain ⟨S0, S1⟩ := hSw; obtain ⟨l0S, c0S0, _⟩ := S0.open1; obtain ⟨l1S, c1S0, _⟩ := S1.open1; clear S0 S1; go_simp; (try with_reducible rfl))
  try simp only [Act.put, List.setIfInBounds_toArray, List.set_cons_zero, List.set_cons_succ]
  refine takeL (i := 1) (oi := ?_) (v := ?_) ?_ (by kernel_rfl) (by kernel_rfl) (by kernel_rfl) (by kernel_rfl) ?_ (Or.inl ⟨?_, ?_⟩) (by assumption) ?_
  rotate_left 2
  · (simp only [List.getElem?_toArray, List.getElem?_cons_succ, List.getElem?_cons_zero]; rfl)
  · exact fun _ _ _ h => h
  · rfl
  · (intro w hSw; (try dsimp only at hSw); obtain ⟨S0, S1⟩ := hSw; obtain ⟨l0S, c0S0, _⟩ := S0.open1; obtain ⟨l1S, c1S0, _⟩ := S1.open1; clear S0 S1; go_simp; (try with_reducible rfl))
  try simp only [Act.put, List.setIfInBounds_toArray, List.set_cons_zero, List.set_cons_succ]
  refine readyL (rs := [2]) (by kernel_rfl) (by simp) ?_
  refine AllReadyL.cons (o := ?_) ?_ (fun K hK => ?_) AllReadyL.none_
  rotate_left
  · (simp only [List.getElem?_toArray, List.getElem?_cons_succ, List.getElem?_cons_zero]; rfl)
  go_simp
  go_at_call 15
  ((with_reducible refine (toRegion_any _ _ _ zs0 _ (arg0.out.below bbw10.out) L0.out hsm0).mono ?_))
  rintro e w11 ⟨Aw11, kw11, rfl, Ow11, hbw11⟩
  have Pw11 := Lib.hid Ow11
  clear Ow11
  have bbw11 := Lib.hid (later bbw10.out hbw11)
  have hzw11 := hbw11.size
  have Va0w11 := Lib.hid (Va0w10.out.step hbw11)
  have Vxw11 := Lib.hid (Vxw10.out.step hbw11)
  have Iuw11 : Hid _ := Lib.hid (Iuw10.out.step hbw11)
  have Ixw11 : Hid _ := Lib.hid (Ixw10.out.step hbw11)
  clear Va0w10
  clear Vxw10
  clear Iuw10
  clear Ixw10
  obtain ⟨la0w11, ca0w11_0, fa0w11_0⟩ := Va0w11.out.open1
  obtain ⟨lxw11, cxw11_0, fxw11_0⟩ := Vxw11.out.open1
  have Itw11 := Pw11
  clear Pw11
  have B9 := hbw11
  refine hK.out _ _ ?_ (fun hHeld => ?_)
  · (first | exact ⟨VB.step (hHeld.1) B9, VB.step (hHeld.2) B9⟩ | exact ⟨VB.alloc (hHeld.1) _, VB.alloc (hHeld.2) _⟩ | exact ⟨VB.drew (VB.alloc (show VB w9 _ _ from hHeld.1) _), VB.drew (VB.alloc (show VB w9 _ _ from hHeld.2) _)⟩ | exact ⟨VB.drew Vxw9.out, VB.drew Va0w9.out⟩)
  clear hK K
  try simp only [Act.put, List.setIfInBounds_toArray, List.set_cons_zero, List.set_cons_succ]
  refine readyL (rs := [3]) (by kernel_rfl) (by simp) ?_
  refine AllReadyL.cons (o := ?_) ?_ (fun K hK => ?_) AllReadyL.none_
  rotate_left
  · (simp only [List.getElem?_toArray, List.getElem?_cons_succ, List.getElem?_cons_zero]; rfl)
  go_simp
  go_at_call 17
  ((with_reducible refine (eqRegion_same _ _ _ _ _ _ zs0 _ (Recs.arg Ixw11.out) (Recs.arg Itw11.out) rfl rfl (by omega) (by omega)).mono ?_))
  rintro e w12 ⟨rfl, hbw12⟩
  clear la0w11 ca0w11_0 fa0w11_0 lxw11 cxw11_0 fxw11_0
  have bbw12 := Lib.hid (later bbw11.out hbw12)
  have hzw12 := hbw12.size
  have Va0w12 := Lib.hid (Va0w11.out.step hbw12)
  have Vxw12 := Lib.hid (Vxw11.out.step hbw12)
  have Iuw12 : Hid _ := Lib.hid (Iuw11.out.step hbw12)
  have Ixw12 : Hid _ := Lib.hid (Ixw11.out.step hbw12)
  have Itw12 : Hid _ := Lib.hid (Itw11.out.step hbw12)
  clear Va0w11
  clear Vxw11
  clear Iuw11
  clear Ixw11
  clear Itw11
  obtain ⟨la0w12, ca0w12_0, fa0w12_0⟩ := Va0w12.out.open1
  obtain ⟨lxw12, cxw12_0, fxw12_0⟩ := Vxw12.out.open1
  have B9 := hbw12
  refine hK.out _ _ ?_ (fun hHeld => ?_)
  · (first | exact ⟨VB.step (hHeld.1) B9, VB.step (hHeld.2) B9⟩ | exact ⟨VB.alloc (hHeld.1) _, VB.alloc (hHeld.2) _⟩ | exact ⟨VB.drew (VB.alloc (show VB w9 _ _ from hHeld.1) _), VB.drew (VB.alloc (show VB w9 _ _ from hHeld.2) _)⟩ | exact ⟨VB.drew Vxw9.out, VB.drew Va0w9.out⟩)
  clear hK K
  try simp only [Act.put, List.setIfInBounds_toArray, List.set_cons_zero, List.set_cons_succ]
  refine takeL (i := 4) (oi := ?_) (v := ?_) ?_ (by kernel_rfl) (by kernel_rfl) (by kernel_rfl) (by kernel_rfl) ?_ (Or.inl ⟨?_, ?_⟩) (by assumption) ?_
  rotate_left 2
  · (simp only [List.getElem?_toArray, List.getElem?_cons_succ, List.getElem?_cons_zero]; rfl)
  · exact fun _ _ _ h => h
  · rfl
  · (intro w hSw; (try dsimp only at hSw); obtain ⟨S0, S1⟩ := hSw; obtain ⟨l0S, c0S0, _⟩ := S0.open1; obtain ⟨l1S, c1S0, _⟩ := S1.open1; clear S0 S1; go_simp; (try with_reducible rfl))
  try simp only [Act.put, List.setIfInBounds_toArray, List.set_cons_zero, List.set_cons_succ]
  refine doneL (by kernel_rfl) ?_ _
  clear Itw12
  go_wp2_with fail
  go_ret
  exact ⟨rfl, bbw12.out⟩
set_option maxRecDepth 100000 in
set_option maxHeartbeats 8000000 in
theorem walkFnExactInRegion (A0 : Option Addr) (n0 c0 : Nat) (z0 : List Pl.R) (a1 : Int) (a2 : Int) (w : World) (hr0 : IsRects w A0 n0 c0 z0) (wa1 : (Lit.int .i64 a1).wf = true) (wa2 : (Lit.int .i64 a2).wf = true) : Calls Try.prog 5 #[.agg #[.slice A0 n0 c0], .int .i64 a1, .int .i64 a2] w fun e w' => e = .returned (.bool true) ∧ Below w.heap.size w w' := by
  have bbw : Hid (Below w.heap.size w w) := Lib.hid (Below.refl _ _)
  obtain ⟨ha0, hl0, hm0⟩ := RArg.of_rects hr0
  generalize z0.take n0 = zs0 at *
  have arg0 := Lib.hid ha0
  have L0 := Lib.hid hl0
  clear ha0 hl0 hr0
  clear wa1
  clear wa2
  by_cases hbig0 : 1048576 < (n0 : Int)
  · have hs := szd_big hbig0
    have HS := Lib.hid hs
    clear hs
    go_enter Try.func5, Try.ntmps5
    go_wp2_with fail
    have Va0w1 := Lib.hid (VB.new (w := w) (b := w.heap.size) (t := 24) (cs := [.slice A0 n0 c0]) (by simp))
    have hbw1 : Below w.heap.size w (w.alloc (.cells #[.slice A0 n0 c0] 24 (0, 0))) := by go_grown
    have bbw1 : Hid (Below w.heap.size w (w.alloc (.cells #[.slice A0 n0 c0] 24 (0, 0)))) := Lib.hid (later bbw.out hbw1)
    have hzw1 : w.heap.size + 1 ≤ (w.alloc (.cells #[.slice A0 n0 c0] 24 (0, 0))).heap.size := by simp
    generalize (w.alloc (.cells #[.slice A0 n0 c0] 24 (0, 0))) = w1 at *
    obtain ⟨la0w1, ca0w1_0, fa0w1_0⟩ := Va0w1.out.open1
    refine (szRegion_any _ _ _ _ _ (by omega) (by omega) (by omega)).mono ?_
    rintro e w2 ⟨rfl, hbw2⟩
    clear la0w1 ca0w1_0 fa0w1_0
    have bbw2 := Lib.hid (later bbw1.out hbw2)
    have hzw2 := hbw2.size
    have Va0w2 := Lib.hid (Va0w1.out.step hbw2)
    clear Va0w1
    obtain ⟨la0w2, ca0w2_0, fa0w2_0⟩ := Va0w2.out.open1
    rw [HS.out]
    go_wp2_with fail
    go_ret
    exact ⟨rfl, bbw2.out⟩
  have hsm0 : n0 ≤ 1048576 := by omega
  have hN0 : zs0.length ≤ 1048576 := by rw [L0.out]; exact hsm0
  go_enter Try.func5, Try.ntmps5
  go_wp2_with fail
  have Va0w3 := Lib.hid (VB.new (w := w) (b := w.heap.size) (t := 24) (cs := [.slice A0 n0 c0]) (by simp))
  have hbw3 : Below w.heap.size w (w.alloc (.cells #[.slice A0 n0 c0] 24 (0, 0))) := by go_grown
  have bbw3 : Hid (Below w.heap.size w (w.alloc (.cells #[.slice A0 n0 c0] 24 (0, 0)))) := Lib.hid (later bbw.out hbw3)
  have hzw3 : w.heap.size + 1 ≤ (w.alloc (.cells #[.slice A0 n0 c0] 24 (0, 0))).heap.size := by simp
  generalize (w.alloc (.cells #[.slice A0 n0 c0] 24 (0, 0))) = w3 at *
  obtain ⟨la0w3, ca0w3_0, fa0w3_0⟩ := Va0w3.out.open1
  refine (szRegion_any _ _ _ _ _ (by omega) (by omega) (by omega)).mono ?_
  rintro e w4 ⟨rfl, hbw4⟩
  clear la0w3 ca0w3_0 fa0w3_0
  have bbw4 := Lib.hid (later bbw3.out hbw4)
  have hzw4 := hbw4.size
  have Va0w4 := Lib.hid (Va0w3.out.step hbw4)
  clear Va0w3
  obtain ⟨la0w4, ca0w4_0, fa0w4_0⟩ := Va0w4.out.open1
  rw [szd_small (by omega)]
  go_wp2_with fail
  refine (toRegion_any _ _ _ zs0 _ (arg0.out.below bbw4.out) L0.out hsm0).mono ?_
  rintro e w5 ⟨Aw5, kw5, rfl, Ow5, hbw5⟩
  have Pw5 := Lib.hid Ow5
  clear Ow5
  clear la0w4 ca0w4_0 fa0w4_0
  have bbw5 := Lib.hid (later bbw4.out hbw5)
  have hzw5 := hbw5.size
  have Va0w5 := Lib.hid (Va0w4.out.step hbw5)
  clear Va0w4
  obtain ⟨la0w5, ca0w5_0, fa0w5_0⟩ := Va0w5.out.open1
  have Iuw5 := Pw5
  clear Pw5
  go_wp2_with fail
  refine (specInRegion _ _ _ zs0 a1 a2 _ (Recs.arg Iuw5.out) rfl (by omega)).mono ?_
  rintro e w6 ⟨rfl, hbw6⟩
  clear la0w5 ca0w5_0 fa0w5_0
  have bbw6 := Lib.hid (later bbw5.out hbw6)
  have hzw6 := hbw6.size
  have Va0w6 := Lib.hid (Va0w5.out.step hbw6)
  have Iuw6 : Hid _ := Lib.hid (Iuw5.out.step hbw6)
  clear Va0w5
  clear Iuw5
  obtain ⟨la0w6, ca0w6_0, fa0w6_0⟩ := Va0w6.out.open1
  go_wp2_with fail
  refine (toRegion_any _ _ _ zs0 _ (arg0.out.below bbw6.out) L0.out hsm0).mono ?_
  rintro e w7 ⟨Aw7, kw7, rfl, Ow7, hbw7⟩
  have Pw7 := Lib.hid Ow7
  clear Ow7
  clear la0w6 ca0w6_0 fa0w6_0
  have bbw7 := Lib.hid (later bbw6.out hbw7)
  have hzw7 := hbw7.size
  have Va0w7 := Lib.hid (Va0w6.out.step hbw7)
  have Iuw7 : Hid _ := Lib.hid (Iuw6.out.step hbw7)
  clear Va0w6
  clear Iuw6
  obtain ⟨la0w7, ca0w7_0, fa0w7_0⟩ := Va0w7.out.open1
  have Ixw7 := Pw7
  clear Pw7
  go_wp2_with fail
  clear la0w7 ca0w7_0 fa0w7_0
  have Va0w8 := Lib.hid ((Va0w7.out).alloc (.cells #[.slice Aw7 zs0.length kw7] 29 (0, 0)))
  have Iuw8 : Hid _ := Lib.hid ((Iuw7.out).alloc (.cells #[.slice Aw7 zs0.length kw7] 29 (0, 0)))
  have Ixw8 : Hid _ := Lib.hid ((Ixw7.out).alloc (.cells #[.slice Aw7 zs0.length kw7] 29 (0, 0)))
  have Vxw8 := Lib.hid (VB.new (w := w7) (b := w7.heap.size) (t := 29) (cs := [.slice Aw7 zs0.length kw7]) (by simp))
  have hbw8 : Below w7.heap.size w7 (w7.alloc (.cells #[.slice Aw7 zs0.length kw7] 29 (0, 0))) := by go_grown
  have bbw8 : Hid (Below w.heap.size w (w7.alloc (.cells #[.slice Aw7 zs0.length kw7] 29 (0, 0)))) := Lib.hid (later bbw7.out hbw8)
  have hzw8 : w7.heap.size + 1 ≤ (w7.alloc (.cells #[.slice Aw7 zs0.length kw7] 29 (0, 0))).heap.size := by simp
  generalize (w7.alloc (.cells #[.slice Aw7 zs0.length kw7] 29 (0, 0))) = w8 at *
  obtain ⟨la0w8, ca0w8_0, fa0w8_0⟩ := Va0w8.out.open1
  obtain ⟨lxw8, cxw8_0, fxw8_0⟩ := Vxw8.out.open1
  refine (implInRegion _ _ _ zs0 a1 a2 _ (Recs.arg Ixw8.out) rfl (by omega)).mono ?_
  rintro e w9 ⟨rfl, hbw9⟩
  clear la0w8 ca0w8_0 fa0w8_0 lxw8 cxw8_0 fxw8_0
  have bbw9 := Lib.hid (later bbw8.out hbw9)
  have hzw9 := hbw9.size
  have Va0w9 := Lib.hid (Va0w8.out.step hbw9)
  have Vxw9 := Lib.hid (Vxw8.out.step hbw9)
  have Iuw9 : Hid _ := Lib.hid (Iuw8.out.step hbw9)
  have Ixw9 : Hid _ := Lib.hid (Ixw8.out.step hbw9)
  clear Va0w8
  clear Vxw8
  clear Iuw8
  clear Ixw8
  obtain ⟨la0w9, ca0w9_0, fa0w9_0⟩ := Va0w9.out.open1
  obtain ⟨lxw9, cxw9_0, fxw9_0⟩ := Vxw9.out.open1
  go_wp2_with fail
  clear la0w9 ca0w9_0 fa0w9_0 lxw9 cxw9_0 fxw9_0
  have bbw10 : Hid (Below w.heap.size w w9.drew) := Lib.hid (Below.drew bbw9.out)
  have hzw10 : w9.heap.size ≤ w9.drew.heap.size := Nat.le_refl _
  have Va0w10 := Lib.hid (VB.drew Va0w9.out)
  have Vxw10 := Lib.hid (VB.drew Vxw9.out)
  have Iuw10 : Hid _ := Lib.hid (show Recs w9.drew _ _ _ _ from Iuw9.out)
  have Ixw10 : Hid _ := Lib.hid (show Recs w9.drew _ _ _ _ from Ixw9.out)
  refine regionL (S := (fun w' => VB w' (w7.heap.size) [.slice Aw7 zs0.length kw7] ∧ VB w' (w.heap.size) [.slice A0 n0 c0])) (L := 5) (by kernel_rfl) ?_ (fun hHeld => ?_)
  · (first | exact ⟨VB.step (hHeld.1) B9, VB.step (hHeld.2) B9⟩ | exact ⟨VB.alloc (hHeld.1) _, VB.alloc (hHeld.2) _⟩ | exact ⟨VB.drew (VB.alloc (show VB w9 _ _ from hHeld.1) _), VB.drew (VB.alloc (show VB w9 _ _ from hHeld.2) _)⟩ | exact ⟨VB.drew Vxw9.out, VB.drew Va0w9.out⟩)
  refine takeL (i := 0) (oi := ?_) (v := ?_) ?_ (by kernel_rfl) (by kernel_rfl) (by kernel_rfl) (by kernel_rfl) ?_ (Or.inl ⟨?_, ?_⟩) (by assumption) ?_
  rotate_left 2
  · (simp only [List.getElem?_toArray, List.getElem?_cons_succ, List.getElem?_cons_zero]; rfl)
  · exact fun _ _ _ h => h
  · rfl
  · (intro w hSw; (try dsimp only at hSw); obtain ⟨S0, S1⟩ := hSw; obtain ⟨l0S, c0S0, _⟩ := S0.open1; obtain ⟨l1S, c1S0, _⟩ := S1.open1; clear S0 S1; go_simp; (try with_reducible rfl))
  try simp only [Act.put, List.setIfInBounds_toArray, List.set_cons_zero, List.set_cons_succ]
  refine takeL (i := 1) (oi := ?_) (v := ?_) ?_ (by kernel_rfl) (by kernel_rfl) (by kernel_rfl) (by kernel_rfl) ?_ (Or.inl ⟨?_, ?_⟩) (by assumption) ?_
  rotate_left 2
  · (simp only [List.getElem?_toArray, List.getElem?_cons_succ, List.getElem?_cons_zero]; rfl)
  · exact fun _ _ _ h => h
  · rfl
  · (intro w hSw; (try dsimp only at hSw); obtain ⟨S0, S1⟩ := hSw; obtain ⟨l0S, c0S0, _⟩ := S0.open1; obtain ⟨l1S, c1S0, _⟩ := S1.open1; clear S0 S1; go_simp; (try with_reducible rfl))
  try simp only [Act.put, List.setIfInBounds_toArray, List.set_cons_zero, List.set_cons_succ]
  refine readyL (rs := [2]) (by kernel_rfl) (by simp) ?_
  refine AllReadyL.cons (o := ?_) ?_ (fun K hK => ?_) AllReadyL.none_
  rotate_left
  · (simp only [List.getElem?_toArray, List.getElem?_cons_succ, List.getElem?_cons_zero]; rfl)
  go_simp
  go_at_call 15
  ((with_reducible refine (toRegion_any _ _ _ zs0 _ (arg0.out.below bbw10.out) L0.out hsm0).mono ?_))
  rintro e w11 ⟨Aw11, kw11, rfl, Ow11, hbw11⟩
  have Pw11 := Lib.hid Ow11
  clear Ow11
  have bbw11 := Lib.hid (later bbw10.out hbw11)
  have hzw11 := hbw11.size
  have Va0w11 := Lib.hid (Va0w10.out.step hbw11)
  have Vxw11 := Lib.hid (Vxw10.out.step hbw11)
  have Iuw11 : Hid _ := Lib.hid (Iuw10.out.step hbw11)
  have Ixw11 : Hid _ := Lib.hid (Ixw10.out.step hbw11)
  clear Va0w10
  clear Vxw10
  clear Iuw10
  clear Ixw10
  obtain ⟨la0w11, ca0w11_0, fa0w11_0⟩ := Va0w11.out.open1
  obtain ⟨lxw11, cxw11_0, fxw11_0⟩ := Vxw11.out.open1
  have Itw11 := Pw11
  clear Pw11
  have B9 := hbw11
  refine hK.out _ _ ?_ (fun hHeld => ?_)
  · (first | exact ⟨VB.step (hHeld.1) B9, VB.step (hHeld.2) B9⟩ | exact ⟨VB.alloc (hHeld.1) _, VB.alloc (hHeld.2) _⟩ | exact ⟨VB.drew (VB.alloc (show VB w9 _ _ from hHeld.1) _), VB.drew (VB.alloc (show VB w9 _ _ from hHeld.2) _)⟩ | exact ⟨VB.drew Vxw9.out, VB.drew Va0w9.out⟩)
  clear hK K
  try simp only [Act.put, List.setIfInBounds_toArray, List.set_cons_zero, List.set_cons_succ]
  refine readyL (rs := [3]) (by kernel_rfl) (by simp) ?_
  refine AllReadyL.cons (o := ?_) ?_ (fun K hK => ?_) AllReadyL.none_
  rotate_left
  · (simp only [List.getElem?_toArray, List.getElem?_cons_succ, List.getElem?_cons_zero]; rfl)
  go_simp
  go_at_call 17
  ((with_reducible refine (eqRegion_same _ _ _ _ _ _ zs0 _ (Recs.arg Ixw11.out) (Recs.arg Itw11.out) rfl rfl (by omega) (by omega)).mono ?_))
  rintro e w12 ⟨rfl, hbw12⟩
  clear la0w11 ca0w11_0 fa0w11_0 lxw11 cxw11_0 fxw11_0
  have bbw12 := Lib.hid (later bbw11.out hbw12)
  have hzw12 := hbw12.size
  have Va0w12 := Lib.hid (Va0w11.out.step hbw12)
  have Vxw12 := Lib.hid (Vxw11.out.step hbw12)
  have Iuw12 : Hid _ := Lib.hid (Iuw11.out.step hbw12)
  have Ixw12 : Hid _ := Lib.hid (Ixw11.out.step hbw12)
  have Itw12 : Hid _ := Lib.hid (Itw11.out.step hbw12)
  clear Va0w11
  clear Vxw11
  clear Iuw11
  clear Ixw11
  clear Itw11
  obtain ⟨la0w12, ca0w12_0, fa0w12_0⟩ := Va0w12.out.open1
  obtain ⟨lxw12, cxw12_0, fxw12_0⟩ := Vxw12.out.open1
  have B9 := hbw12
  refine hK.out _ _ ?_ (fun hHeld => ?_)
  · (first | exact ⟨VB.step (hHeld.1) B9, VB.step (hHeld.2) B9⟩ | exact ⟨VB.alloc (hHeld.1) _, VB.alloc (hHeld.2) _⟩ | exact ⟨VB.drew (VB.alloc (show VB w9 _ _ from hHeld.1) _), VB.drew (VB.alloc (show VB w9 _ _ from hHeld.2) _)⟩ | exact ⟨VB.drew Vxw9.out, VB.drew Va0w9.out⟩)
  clear hK K
  try simp only [Act.put, List.setIfInBounds_toArray, List.set_cons_zero, List.set_cons_succ]
  refine takeL (i := 4) (oi := ?_) (v := ?_) ?_ (by kernel_rfl) (by kernel_rfl) (by kernel_rfl) (by kernel_rfl) ?_ (Or.inl ⟨?_, ?_⟩) (by assumption) ?_
  rotate_left 2
  · (simp only [List.getElem?_toArray, List.getElem?_cons_succ, List.getElem?_cons_zero]; rfl)
  · exact fun _ _ _ h => h
  · rfl
  · (intro w hSw; (try dsimp only at hSw); obtain ⟨S0, S1⟩ := hSw; obtain ⟨l0S, c0S0, _⟩ := S0.open1; obtain ⟨l1S, c1S0, _⟩ := S1.open1; clear S0 S1; go_simp; (try with_reducible rfl))
  try simp only [Act.put, List.setIfInBounds_toArray, List.set_cons_zero, List.set_cons_succ]
  refine doneL (by kernel_rfl) ?_ _
  clear Itw12
  go_wp2_with fail
  go_ret
  exact ⟨rfl, bbw12.out⟩
set_option maxRecDepth 100000 in
set_option maxHeartbeats 8000000 in
theorem walkFnExactAreaOf (A0 : Option Addr) (n0 c0 : Nat) (z0 : List Pl.R) (w : World) (hr0 : IsRects w A0 n0 c0 z0) : Calls Try.prog 6 #[.agg #[.slice A0 n0 c0]] w fun e w' => e = .returned (.bool true) ∧ Below w.heap.size w w' := by
  have bbw : Hid (Below w.heap.size w w) := Lib.hid (Below.refl _ _)
  obtain ⟨ha0, hl0, hm0⟩ := RArg.of_rects hr0
  generalize z0.take n0 = zs0 at *
  have arg0 := Lib.hid ha0
  have L0 := Lib.hid hl0
  clear ha0 hl0 hr0
  by_cases hbig0 : 1048576 < (n0 : Int)
  · have hs := szd_big hbig0
    have HS := Lib.hid hs
    clear hs
    go_enter Try.func6, Try.ntmps6
    go_wp2_with fail
    have Va0w1 := Lib.hid (VB.new (w := w) (b := w.heap.size) (t := 24) (cs := [.slice A0 n0 c0]) (by simp))
    have hbw1 : Below w.heap.size w (w.alloc (.cells #[.slice A0 n0 c0] 24 (0, 0))) := by go_grown
    have bbw1 : Hid (Below w.heap.size w (w.alloc (.cells #[.slice A0 n0 c0] 24 (0, 0)))) := Lib.hid (later bbw.out hbw1)
    have hzw1 : w.heap.size + 1 ≤ (w.alloc (.cells #[.slice A0 n0 c0] 24 (0, 0))).heap.size := by simp
    generalize (w.alloc (.cells #[.slice A0 n0 c0] 24 (0, 0))) = w1 at *
    obtain ⟨la0w1, ca0w1_0, fa0w1_0⟩ := Va0w1.out.open1
    refine (szRegion_any _ _ _ _ _ (by omega) (by omega) (by omega)).mono ?_
    rintro e w2 ⟨rfl, hbw2⟩
    clear la0w1 ca0w1_0 fa0w1_0
    have bbw2 := Lib.hid (later bbw1.out hbw2)
    have hzw2 := hbw2.size
    have Va0w2 := Lib.hid (Va0w1.out.step hbw2)
    clear Va0w1
    obtain ⟨la0w2, ca0w2_0, fa0w2_0⟩ := Va0w2.out.open1
    rw [HS.out]
    go_wp2_with fail
    go_ret
    exact ⟨rfl, bbw2.out⟩
  have hsm0 : n0 ≤ 1048576 := by omega
  have hN0 : zs0.length ≤ 1048576 := by rw [L0.out]; exact hsm0
  go_enter Try.func6, Try.ntmps6
  go_wp2_with fail
  have Va0w3 := Lib.hid (VB.new (w := w) (b := w.heap.size) (t := 24) (cs := [.slice A0 n0 c0]) (by simp))
  have hbw3 : Below w.heap.size w (w.alloc (.cells #[.slice A0 n0 c0] 24 (0, 0))) := by go_grown
  have bbw3 : Hid (Below w.heap.size w (w.alloc (.cells #[.slice A0 n0 c0] 24 (0, 0)))) := Lib.hid (later bbw.out hbw3)
  have hzw3 : w.heap.size + 1 ≤ (w.alloc (.cells #[.slice A0 n0 c0] 24 (0, 0))).heap.size := by simp
  generalize (w.alloc (.cells #[.slice A0 n0 c0] 24 (0, 0))) = w3 at *
  obtain ⟨la0w3, ca0w3_0, fa0w3_0⟩ := Va0w3.out.open1
  refine (szRegion_any _ _ _ _ _ (by omega) (by omega) (by omega)).mono ?_
  rintro e w4 ⟨rfl, hbw4⟩
  clear la0w3 ca0w3_0 fa0w3_0
  have bbw4 := Lib.hid (later bbw3.out hbw4)
  have hzw4 := hbw4.size
  have Va0w4 := Lib.hid (Va0w3.out.step hbw4)
  clear Va0w3
  obtain ⟨la0w4, ca0w4_0, fa0w4_0⟩ := Va0w4.out.open1
  rw [szd_small (by omega)]
  go_wp2_with fail
  refine (toRegion_any _ _ _ zs0 _ (arg0.out.below bbw4.out) L0.out hsm0).mono ?_
  rintro e w5 ⟨Aw5, kw5, rfl, Ow5, hbw5⟩
  have Pw5 := Lib.hid Ow5
  clear Ow5
  clear la0w4 ca0w4_0 fa0w4_0
  have bbw5 := Lib.hid (later bbw4.out hbw5)
  have hzw5 := hbw5.size
  have Va0w5 := Lib.hid (Va0w4.out.step hbw5)
  clear Va0w4
  obtain ⟨la0w5, ca0w5_0, fa0w5_0⟩ := Va0w5.out.open1
  have Iuw5 := Pw5
  clear Pw5
  go_wp2_with fail
  refine (specAreaOf _ _ _ zs0 _ (Recs.arg Iuw5.out) rfl (by omega)).mono ?_
  rintro e w6 ⟨rfl, hbw6⟩
  clear la0w5 ca0w5_0 fa0w5_0
  have bbw6 := Lib.hid (later bbw5.out hbw6)
  have hzw6 := hbw6.size
  have Va0w6 := Lib.hid (Va0w5.out.step hbw6)
  have Iuw6 : Hid _ := Lib.hid (Iuw5.out.step hbw6)
  clear Va0w5
  clear Iuw5
  obtain ⟨la0w6, ca0w6_0, fa0w6_0⟩ := Va0w6.out.open1
  go_wp2_with fail
  refine (toRegion_any _ _ _ zs0 _ (arg0.out.below bbw6.out) L0.out hsm0).mono ?_
  rintro e w7 ⟨Aw7, kw7, rfl, Ow7, hbw7⟩
  have Pw7 := Lib.hid Ow7
  clear Ow7
  clear la0w6 ca0w6_0 fa0w6_0
  have bbw7 := Lib.hid (later bbw6.out hbw7)
  have hzw7 := hbw7.size
  have Va0w7 := Lib.hid (Va0w6.out.step hbw7)
  have Iuw7 : Hid _ := Lib.hid (Iuw6.out.step hbw7)
  clear Va0w6
  clear Iuw6
  obtain ⟨la0w7, ca0w7_0, fa0w7_0⟩ := Va0w7.out.open1
  have Ixw7 := Pw7
  clear Pw7
  go_wp2_with fail
  clear la0w7 ca0w7_0 fa0w7_0
  have Va0w8 := Lib.hid ((Va0w7.out).alloc (.cells #[.slice Aw7 zs0.length kw7] 29 (0, 0)))
  have Iuw8 : Hid _ := Lib.hid ((Iuw7.out).alloc (.cells #[.slice Aw7 zs0.length kw7] 29 (0, 0)))
  have Ixw8 : Hid _ := Lib.hid ((Ixw7.out).alloc (.cells #[.slice Aw7 zs0.length kw7] 29 (0, 0)))
  have Vxw8 := Lib.hid (VB.new (w := w7) (b := w7.heap.size) (t := 29) (cs := [.slice Aw7 zs0.length kw7]) (by simp))
  have hbw8 : Below w7.heap.size w7 (w7.alloc (.cells #[.slice Aw7 zs0.length kw7] 29 (0, 0))) := by go_grown
  have bbw8 : Hid (Below w.heap.size w (w7.alloc (.cells #[.slice Aw7 zs0.length kw7] 29 (0, 0)))) := Lib.hid (later bbw7.out hbw8)
  have hzw8 : w7.heap.size + 1 ≤ (w7.alloc (.cells #[.slice Aw7 zs0.length kw7] 29 (0, 0))).heap.size := by simp
  generalize (w7.alloc (.cells #[.slice Aw7 zs0.length kw7] 29 (0, 0))) = w8 at *
  obtain ⟨la0w8, ca0w8_0, fa0w8_0⟩ := Va0w8.out.open1
  obtain ⟨lxw8, cxw8_0, fxw8_0⟩ := Vxw8.out.open1
  refine (implAreaOf _ _ _ zs0 _ (Recs.arg Ixw8.out) rfl (by omega)).mono ?_
  rintro e w9 ⟨rfl, hbw9⟩
  clear la0w8 ca0w8_0 fa0w8_0 lxw8 cxw8_0 fxw8_0
  have bbw9 := Lib.hid (later bbw8.out hbw9)
  have hzw9 := hbw9.size
  have Va0w9 := Lib.hid (Va0w8.out.step hbw9)
  have Vxw9 := Lib.hid (Vxw8.out.step hbw9)
  have Iuw9 : Hid _ := Lib.hid (Iuw8.out.step hbw9)
  have Ixw9 : Hid _ := Lib.hid (Ixw8.out.step hbw9)
  clear Va0w8
  clear Vxw8
  clear Iuw8
  clear Ixw8
  obtain ⟨la0w9, ca0w9_0, fa0w9_0⟩ := Va0w9.out.open1
  obtain ⟨lxw9, cxw9_0, fxw9_0⟩ := Vxw9.out.open1
  go_wp2_with fail
  clear la0w9 ca0w9_0 fa0w9_0 lxw9 cxw9_0 fxw9_0
  have bbw10 : Hid (Below w.heap.size w w9.drew) := Lib.hid (Below.drew bbw9.out)
  have hzw10 : w9.heap.size ≤ w9.drew.heap.size := Nat.le_refl _
  have Va0w10 := Lib.hid (VB.drew Va0w9.out)
  have Vxw10 := Lib.hid (VB.drew Vxw9.out)
  have Iuw10 : Hid _ := Lib.hid (show Recs w9.drew _ _ _ _ from Iuw9.out)
  have Ixw10 : Hid _ := Lib.hid (show Recs w9.drew _ _ _ _ from Ixw9.out)
  refine regionL (S := (fun w' => VB w' (w7.heap.size) [.slice Aw7 zs0.length kw7] ∧ VB w' (w.heap.size) [.slice A0 n0 c0])) (L := 5) (by kernel_rfl) ?_ (fun hHeld => ?_)
  · (first | exact ⟨VB.step (hHeld.1) B9, VB.step (hHeld.2) B9⟩ | exact ⟨VB.alloc (hHeld.1) _, VB.alloc (hHeld.2) _⟩ | exact ⟨VB.drew (VB.alloc (show VB w9 _ _ from hHeld.1) _), VB.drew (VB.alloc (show VB w9 _ _ from hHeld.2) _)⟩ | exact ⟨VB.drew Vxw9.out, VB.drew Va0w9.out⟩)
  refine takeL (i := 0) (oi := ?_) (v := ?_) ?_ (by kernel_rfl) (by kernel_rfl) (by kernel_rfl) (by kernel_rfl) ?_ (Or.inl ⟨?_, ?_⟩) (by assumption) ?_
  rotate_left 2
  · (simp only [List.getElem?_toArray, List.getElem?_cons_succ, List.getElem?_cons_zero]; rfl)
  · exact fun _ _ _ h => h
  · rfl
  · (intro w hSw; (try dsimp only at hSw); obtain ⟨S0, S1⟩ := hSw; obtain ⟨l0S, c0S0, _⟩ := S0.open1; obtain ⟨l1S, c1S0, _⟩ := S1.open1; clear S0 S1; go_simp; (try with_reducible rfl))
  try simp only [Act.put, List.setIfInBounds_toArray, List.set_cons_zero, List.set_cons_succ]
  refine takeL (i := 1) (oi := ?_) (v := ?_) ?_ (by kernel_rfl) (by kernel_rfl) (by kernel_rfl) (by kernel_rfl) ?_ (Or.inl ⟨?_, ?_⟩) (by assumption) ?_
  rotate_left 2
  · (simp only [List.getElem?_toArray, List.getElem?_cons_succ, List.getElem?_cons_zero]; rfl)
  · exact fun _ _ _ h => h
  · rfl
  · (intro w hSw; (try dsimp only at hSw); obtain ⟨S0, S1⟩ := hSw; obtain ⟨l0S, c0S0, _⟩ := S0.open1; obtain ⟨l1S, c1S0, _⟩ := S1.open1; clear S0 S1; go_simp; (try with_reducible rfl))
  try simp only [Act.put, List.setIfInBounds_toArray, List.set_cons_zero, List.set_cons_succ]
  refine readyL (rs := [2]) (by kernel_rfl) (by simp) ?_
  refine AllReadyL.cons (o := ?_) ?_ (fun K hK => ?_) AllReadyL.none_
  rotate_left
  · (simp only [List.getElem?_toArray, List.getElem?_cons_succ, List.getElem?_cons_zero]; rfl)
  go_simp
  go_at_call 15
  ((with_reducible refine (toRegion_any _ _ _ zs0 _ (arg0.out.below bbw10.out) L0.out hsm0).mono ?_))
  rintro e w11 ⟨Aw11, kw11, rfl, Ow11, hbw11⟩
  have Pw11 := Lib.hid Ow11
  clear Ow11
  have bbw11 := Lib.hid (later bbw10.out hbw11)
  have hzw11 := hbw11.size
  have Va0w11 := Lib.hid (Va0w10.out.step hbw11)
  have Vxw11 := Lib.hid (Vxw10.out.step hbw11)
  have Iuw11 : Hid _ := Lib.hid (Iuw10.out.step hbw11)
  have Ixw11 : Hid _ := Lib.hid (Ixw10.out.step hbw11)
  clear Va0w10
  clear Vxw10
  clear Iuw10
  clear Ixw10
  obtain ⟨la0w11, ca0w11_0, fa0w11_0⟩ := Va0w11.out.open1
  obtain ⟨lxw11, cxw11_0, fxw11_0⟩ := Vxw11.out.open1
  have Itw11 := Pw11
  clear Pw11
  have B9 := hbw11
  refine hK.out _ _ ?_ (fun hHeld => ?_)
  · (first | exact ⟨VB.step (hHeld.1) B9, VB.step (hHeld.2) B9⟩ | exact ⟨VB.alloc (hHeld.1) _, VB.alloc (hHeld.2) _⟩ | exact ⟨VB.drew (VB.alloc (show VB w9 _ _ from hHeld.1) _), VB.drew (VB.alloc (show VB w9 _ _ from hHeld.2) _)⟩ | exact ⟨VB.drew Vxw9.out, VB.drew Va0w9.out⟩)
  clear hK K
  try simp only [Act.put, List.setIfInBounds_toArray, List.set_cons_zero, List.set_cons_succ]
  refine readyL (rs := [3]) (by kernel_rfl) (by simp) ?_
  refine AllReadyL.cons (o := ?_) ?_ (fun K hK => ?_) AllReadyL.none_
  rotate_left
  · (simp only [List.getElem?_toArray, List.getElem?_cons_succ, List.getElem?_cons_zero]; rfl)
  go_simp
  go_at_call 17
  ((with_reducible refine (eqRegion_same _ _ _ _ _ _ zs0 _ (Recs.arg Ixw11.out) (Recs.arg Itw11.out) rfl rfl (by omega) (by omega)).mono ?_))
  rintro e w12 ⟨rfl, hbw12⟩
  clear la0w11 ca0w11_0 fa0w11_0 lxw11 cxw11_0 fxw11_0
  have bbw12 := Lib.hid (later bbw11.out hbw12)
  have hzw12 := hbw12.size
  have Va0w12 := Lib.hid (Va0w11.out.step hbw12)
  have Vxw12 := Lib.hid (Vxw11.out.step hbw12)
  have Iuw12 : Hid _ := Lib.hid (Iuw11.out.step hbw12)
  have Ixw12 : Hid _ := Lib.hid (Ixw11.out.step hbw12)
  have Itw12 : Hid _ := Lib.hid (Itw11.out.step hbw12)
  clear Va0w11
  clear Vxw11
  clear Iuw11
  clear Ixw11
  clear Itw11
  obtain ⟨la0w12, ca0w12_0, fa0w12_0⟩ := Va0w12.out.open1
  obtain ⟨lxw12, cxw12_0, fxw12_0⟩ := Vxw12.out.open1
  have B9 := hbw12
  refine hK.out _ _ ?_ (fun hHeld => ?_)
  · (first | exact ⟨VB.step (hHeld.1) B9, VB.step (hHeld.2) B9⟩ | exact ⟨VB.alloc (hHeld.1) _, VB.alloc (hHeld.2) _⟩ | exact ⟨VB.drew (VB.alloc (show VB w9 _ _ from hHeld.1) _), VB.drew (VB.alloc (show VB w9 _ _ from hHeld.2) _)⟩ | exact ⟨VB.drew Vxw9.out, VB.drew Va0w9.out⟩)
  clear hK K
  try simp only [Act.put, List.setIfInBounds_toArray, List.set_cons_zero, List.set_cons_succ]
  refine takeL (i := 4) (oi := ?_) (v := ?_) ?_ (by kernel_rfl) (by kernel_rfl) (by kernel_rfl) (by kernel_rfl) ?_ (Or.inl ⟨?_, ?_⟩) (by assumption) ?_
  rotate_left 2
  · (simp only [List.getElem?_toArray, List.getElem?_cons_succ, List.getElem?_cons_zero]; rfl)
  · exact fun _ _ _ h => h
  · rfl
  · (intro w hSw; (try dsimp only at hSw); obtain ⟨S0, S1⟩ := hSw; obtain ⟨l0S, c0S0, _⟩ := S0.open1; obtain ⟨l1S, c1S0, _⟩ := S1.open1; clear S0 S1; go_simp; (try with_reducible rfl))
  try simp only [Act.put, List.setIfInBounds_toArray, List.set_cons_zero, List.set_cons_succ]
  refine doneL (by kernel_rfl) ?_ _
  clear Itw12
  go_wp2_with fail
  go_ret
  exact ⟨rfl, bbw12.out⟩
set_option maxRecDepth 100000 in
set_option maxHeartbeats 8000000 in
theorem walkFnExactBoundsOf (A0 : Option Addr) (n0 c0 : Nat) (z0 : List Pl.R) (w : World) (hr0 : IsRects w A0 n0 c0 z0) : Calls Try.prog 7 #[.agg #[.slice A0 n0 c0]] w fun e w' => e = .returned (.bool true) ∧ Below w.heap.size w w' := by
  have bbw : Hid (Below w.heap.size w w) := Lib.hid (Below.refl _ _)
  obtain ⟨ha0, hl0, hm0⟩ := RArg.of_rects hr0
  generalize z0.take n0 = zs0 at *
  have arg0 := Lib.hid ha0
  have L0 := Lib.hid hl0
  clear ha0 hl0 hr0
  by_cases hbig0 : 1048576 < (n0 : Int)
  · have hs := szd_big hbig0
    have HS := Lib.hid hs
    clear hs
    go_enter Try.func7, Try.ntmps7
    go_wp2_with fail
    have Va0w1 := Lib.hid (VB.new (w := w) (b := w.heap.size) (t := 24) (cs := [.slice A0 n0 c0]) (by simp))
    have hbw1 : Below w.heap.size w (w.alloc (.cells #[.slice A0 n0 c0] 24 (0, 0))) := by go_grown
    have bbw1 : Hid (Below w.heap.size w (w.alloc (.cells #[.slice A0 n0 c0] 24 (0, 0)))) := Lib.hid (later bbw.out hbw1)
    have hzw1 : w.heap.size + 1 ≤ (w.alloc (.cells #[.slice A0 n0 c0] 24 (0, 0))).heap.size := by simp
    generalize (w.alloc (.cells #[.slice A0 n0 c0] 24 (0, 0))) = w1 at *
    obtain ⟨la0w1, ca0w1_0, fa0w1_0⟩ := Va0w1.out.open1
    refine (szRegion_any _ _ _ _ _ (by omega) (by omega) (by omega)).mono ?_
    rintro e w2 ⟨rfl, hbw2⟩
    clear la0w1 ca0w1_0 fa0w1_0
    have bbw2 := Lib.hid (later bbw1.out hbw2)
    have hzw2 := hbw2.size
    have Va0w2 := Lib.hid (Va0w1.out.step hbw2)
    clear Va0w1
    obtain ⟨la0w2, ca0w2_0, fa0w2_0⟩ := Va0w2.out.open1
    rw [HS.out]
    go_wp2_with fail
    go_ret
    exact ⟨rfl, bbw2.out⟩
  have hsm0 : n0 ≤ 1048576 := by omega
  have hN0 : zs0.length ≤ 1048576 := by rw [L0.out]; exact hsm0
  go_enter Try.func7, Try.ntmps7
  go_wp2_with fail
  have Va0w3 := Lib.hid (VB.new (w := w) (b := w.heap.size) (t := 24) (cs := [.slice A0 n0 c0]) (by simp))
  have hbw3 : Below w.heap.size w (w.alloc (.cells #[.slice A0 n0 c0] 24 (0, 0))) := by go_grown
  have bbw3 : Hid (Below w.heap.size w (w.alloc (.cells #[.slice A0 n0 c0] 24 (0, 0)))) := Lib.hid (later bbw.out hbw3)
  have hzw3 : w.heap.size + 1 ≤ (w.alloc (.cells #[.slice A0 n0 c0] 24 (0, 0))).heap.size := by simp
  generalize (w.alloc (.cells #[.slice A0 n0 c0] 24 (0, 0))) = w3 at *
  obtain ⟨la0w3, ca0w3_0, fa0w3_0⟩ := Va0w3.out.open1
  refine (szRegion_any _ _ _ _ _ (by omega) (by omega) (by omega)).mono ?_
  rintro e w4 ⟨rfl, hbw4⟩
  clear la0w3 ca0w3_0 fa0w3_0
  have bbw4 := Lib.hid (later bbw3.out hbw4)
  have hzw4 := hbw4.size
  have Va0w4 := Lib.hid (Va0w3.out.step hbw4)
  clear Va0w3
  obtain ⟨la0w4, ca0w4_0, fa0w4_0⟩ := Va0w4.out.open1
  rw [szd_small (by omega)]
  go_wp2_with fail
  refine (toRegion_any _ _ _ zs0 _ (arg0.out.below bbw4.out) L0.out hsm0).mono ?_
  rintro e w5 ⟨Aw5, kw5, rfl, Ow5, hbw5⟩
  have Pw5 := Lib.hid Ow5
  clear Ow5
  clear la0w4 ca0w4_0 fa0w4_0
  have bbw5 := Lib.hid (later bbw4.out hbw5)
  have hzw5 := hbw5.size
  have Va0w5 := Lib.hid (Va0w4.out.step hbw5)
  clear Va0w4
  obtain ⟨la0w5, ca0w5_0, fa0w5_0⟩ := Va0w5.out.open1
  have Iuw5 := Pw5
  clear Pw5
  go_wp2_with fail
  refine (specBoundsOf _ _ _ zs0 _ (Recs.arg Iuw5.out) rfl (by omega)).mono ?_
  rintro e w6 ⟨rfl, hbw6⟩
  clear la0w5 ca0w5_0 fa0w5_0
  have bbw6 := Lib.hid (later bbw5.out hbw6)
  have hzw6 := hbw6.size
  have Va0w6 := Lib.hid (Va0w5.out.step hbw6)
  have Iuw6 : Hid _ := Lib.hid (Iuw5.out.step hbw6)
  clear Va0w5
  clear Iuw5
  obtain ⟨la0w6, ca0w6_0, fa0w6_0⟩ := Va0w6.out.open1
  go_wp2_with fail
  go_wp2_with fail
  clear la0w6 ca0w6_0 fa0w6_0
  have Va0w7 := Lib.hid ((Va0w6.out).alloc (.cells #[.int .i64 (Pl.boundsOf zs0).x, .int .i64 (Pl.boundsOf zs0).y, .int .i64 (Pl.boundsOf zs0).w, .int .i64 (Pl.boundsOf zs0).h] 44 (0, 0)))
  have Iuw7 : Hid _ := Lib.hid ((Iuw6.out).alloc (.cells #[.int .i64 (Pl.boundsOf zs0).x, .int .i64 (Pl.boundsOf zs0).y, .int .i64 (Pl.boundsOf zs0).w, .int .i64 (Pl.boundsOf zs0).h] 44 (0, 0)))
  have Vww7 := Lib.hid (VB.new (w := w6) (b := w6.heap.size) (t := 44) (cs := [.int .i64 (Pl.boundsOf zs0).x,.int .i64 (Pl.boundsOf zs0).y,.int .i64 (Pl.boundsOf zs0).w,.int .i64 (Pl.boundsOf zs0).h]) (by simp))
  have hbw7 : Below w6.heap.size w6 (w6.alloc (.cells #[.int .i64 (Pl.boundsOf zs0).x, .int .i64 (Pl.boundsOf zs0).y, .int .i64 (Pl.boundsOf zs0).w, .int .i64 (Pl.boundsOf zs0).h] 44 (0, 0))) := by go_grown
  have bbw7 : Hid (Below w.heap.size w (w6.alloc (.cells #[.int .i64 (Pl.boundsOf zs0).x, .int .i64 (Pl.boundsOf zs0).y, .int .i64 (Pl.boundsOf zs0).w, .int .i64 (Pl.boundsOf zs0).h] 44 (0, 0)))) := Lib.hid (later bbw6.out hbw7)
  have hzw7 : w6.heap.size + 1 ≤ (w6.alloc (.cells #[.int .i64 (Pl.boundsOf zs0).x, .int .i64 (Pl.boundsOf zs0).y, .int .i64 (Pl.boundsOf zs0).w, .int .i64 (Pl.boundsOf zs0).h] 44 (0, 0))).heap.size := by simp
  generalize (w6.alloc (.cells #[.int .i64 (Pl.boundsOf zs0).x, .int .i64 (Pl.boundsOf zs0).y, .int .i64 (Pl.boundsOf zs0).w, .int .i64 (Pl.boundsOf zs0).h] 44 (0, 0))) = w7 at *
  obtain ⟨la0w7, ca0w7_0, fa0w7_0⟩ := Va0w7.out.open1
  obtain ⟨lww7, cww7_0, cww7_1, cww7_2, cww7_3, fww7_0, fww7_1, fww7_2, fww7_3⟩ := Vww7.out.open4
  go_wp2_with fail
  refine (toRegion_any _ _ _ zs0 _ (arg0.out.below bbw7.out) L0.out hsm0).mono ?_
  rintro e w8 ⟨Aw8, kw8, rfl, Ow8, hbw8⟩
  have Pw8 := Lib.hid Ow8
  clear Ow8
  clear la0w7 ca0w7_0 fa0w7_0 lww7 cww7_0 cww7_1 cww7_2 cww7_3 fww7_0 fww7_1 fww7_2 fww7_3
  have bbw8 := Lib.hid (later bbw7.out hbw8)
  have hzw8 := hbw8.size
  have Va0w8 := Lib.hid (Va0w7.out.step hbw8)
  have Vww8 := Lib.hid (Vww7.out.step hbw8)
  have Iuw8 : Hid _ := Lib.hid (Iuw7.out.step hbw8)
  clear Va0w7
  clear Vww7
  clear Iuw7
  obtain ⟨la0w8, ca0w8_0, fa0w8_0⟩ := Va0w8.out.open1
  obtain ⟨lww8, cww8_0, cww8_1, cww8_2, cww8_3, fww8_0, fww8_1, fww8_2, fww8_3⟩ := Vww8.out.open4
  have Ixw8 := Pw8
  clear Pw8
  go_wp2_with fail
  clear la0w8 ca0w8_0 fa0w8_0 lww8 cww8_0 cww8_1 cww8_2 cww8_3 fww8_0 fww8_1 fww8_2 fww8_3
  have Va0w9 := Lib.hid ((Va0w8.out).alloc (.cells #[.slice Aw8 zs0.length kw8] 29 (0, 0)))
  have Vww9 := Lib.hid ((Vww8.out).alloc (.cells #[.slice Aw8 zs0.length kw8] 29 (0, 0)))
  have Iuw9 : Hid _ := Lib.hid ((Iuw8.out).alloc (.cells #[.slice Aw8 zs0.length kw8] 29 (0, 0)))
  have Ixw9 : Hid _ := Lib.hid ((Ixw8.out).alloc (.cells #[.slice Aw8 zs0.length kw8] 29 (0, 0)))
  have Vxw9 := Lib.hid (VB.new (w := w8) (b := w8.heap.size) (t := 29) (cs := [.slice Aw8 zs0.length kw8]) (by simp))
  have hbw9 : Below w8.heap.size w8 (w8.alloc (.cells #[.slice Aw8 zs0.length kw8] 29 (0, 0))) := by go_grown
  have bbw9 : Hid (Below w.heap.size w (w8.alloc (.cells #[.slice Aw8 zs0.length kw8] 29 (0, 0)))) := Lib.hid (later bbw8.out hbw9)
  have hzw9 : w8.heap.size + 1 ≤ (w8.alloc (.cells #[.slice Aw8 zs0.length kw8] 29 (0, 0))).heap.size := by simp
  generalize (w8.alloc (.cells #[.slice Aw8 zs0.length kw8] 29 (0, 0))) = w9 at *
  obtain ⟨la0w9, ca0w9_0, fa0w9_0⟩ := Va0w9.out.open1
  obtain ⟨lww9, cww9_0, cww9_1, cww9_2, cww9_3, fww9_0, fww9_1, fww9_2, fww9_3⟩ := Vww9.out.open4
  obtain ⟨lxw9, cxw9_0, fxw9_0⟩ := Vxw9.out.open1
  refine (implBoundsOf _ _ _ zs0 _ (Recs.arg Ixw9.out) rfl (by omega)).mono ?_
  rintro e w10 ⟨rfl, hbw10⟩
  clear la0w9 ca0w9_0 fa0w9_0 lww9 cww9_0 cww9_1 cww9_2 cww9_3 fww9_0 fww9_1 fww9_2 fww9_3 lxw9 cxw9_0 fxw9_0
  have bbw10 := Lib.hid (later bbw9.out hbw10)
  have hzw10 := hbw10.size
  have Va0w10 := Lib.hid (Va0w9.out.step hbw10)
  have Vww10 := Lib.hid (Vww9.out.step hbw10)
  have Vxw10 := Lib.hid (Vxw9.out.step hbw10)
  have Iuw10 : Hid _ := Lib.hid (Iuw9.out.step hbw10)
  have Ixw10 : Hid _ := Lib.hid (Ixw9.out.step hbw10)
  clear Va0w9
  clear Vww9
  clear Vxw9
  clear Iuw9
  clear Ixw9
  obtain ⟨la0w10, ca0w10_0, fa0w10_0⟩ := Va0w10.out.open1
  obtain ⟨lww10, cww10_0, cww10_1, cww10_2, cww10_3, fww10_0, fww10_1, fww10_2, fww10_3⟩ := Vww10.out.open4
  obtain ⟨lxw10, cxw10_0, fxw10_0⟩ := Vxw10.out.open1
  go_wp2_with fail
  clear la0w10 ca0w10_0 fa0w10_0 lww10 cww10_0 cww10_1 cww10_2 cww10_3 fww10_0 fww10_1 fww10_2 fww10_3 lxw10 cxw10_0 fxw10_0
  have Va0w11 := Lib.hid ((Va0w10.out).alloc (.cells #[.int .i64 (Pl.boundsOf zs0).x, .int .i64 (Pl.boundsOf zs0).y, .int .i64 (Pl.boundsOf zs0).w, .int .i64 (Pl.boundsOf zs0).h] 44 (0, 0)))
  have Vww11 := Lib.hid ((Vww10.out).alloc (.cells #[.int .i64 (Pl.boundsOf zs0).x, .int .i64 (Pl.boundsOf zs0).y, .int .i64 (Pl.boundsOf zs0).w, .int .i64 (Pl.boundsOf zs0).h] 44 (0, 0)))
  have Vxw11 := Lib.hid ((Vxw10.out).alloc (.cells #[.int .i64 (Pl.boundsOf zs0).x, .int .i64 (Pl.boundsOf zs0).y, .int .i64 (Pl.boundsOf zs0).w, .int .i64 (Pl.boundsOf zs0).h] 44 (0, 0)))
  have Iuw11 : Hid _ := Lib.hid ((Iuw10.out).alloc (.cells #[.int .i64 (Pl.boundsOf zs0).x, .int .i64 (Pl.boundsOf zs0).y, .int .i64 (Pl.boundsOf zs0).w, .int .i64 (Pl.boundsOf zs0).h] 44 (0, 0)))
  have Ixw11 : Hid _ := Lib.hid ((Ixw10.out).alloc (.cells #[.int .i64 (Pl.boundsOf zs0).x, .int .i64 (Pl.boundsOf zs0).y, .int .i64 (Pl.boundsOf zs0).w, .int .i64 (Pl.boundsOf zs0).h] 44 (0, 0)))
  have Vgw11 := Lib.hid (VB.new (w := w10) (b := w10.heap.size) (t := 44) (cs := [.int .i64 (Pl.boundsOf zs0).x,.int .i64 (Pl.boundsOf zs0).y,.int .i64 (Pl.boundsOf zs0).w,.int .i64 (Pl.boundsOf zs0).h]) (by simp))
  have hbw11 : Below w10.heap.size w10 (w10.alloc (.cells #[.int .i64 (Pl.boundsOf zs0).x, .int .i64 (Pl.boundsOf zs0).y, .int .i64 (Pl.boundsOf zs0).w, .int .i64 (Pl.boundsOf zs0).h] 44 (0, 0))) := by go_grown
  have bbw11 : Hid (Below w.heap.size w (w10.alloc (.cells #[.int .i64 (Pl.boundsOf zs0).x, .int .i64 (Pl.boundsOf zs0).y, .int .i64 (Pl.boundsOf zs0).w, .int .i64 (Pl.boundsOf zs0).h] 44 (0, 0)))) := Lib.hid (later bbw10.out hbw11)
  have hzw11 : w10.heap.size + 1 ≤ (w10.alloc (.cells #[.int .i64 (Pl.boundsOf zs0).x, .int .i64 (Pl.boundsOf zs0).y, .int .i64 (Pl.boundsOf zs0).w, .int .i64 (Pl.boundsOf zs0).h] 44 (0, 0))).heap.size := by simp
  generalize (w10.alloc (.cells #[.int .i64 (Pl.boundsOf zs0).x, .int .i64 (Pl.boundsOf zs0).y, .int .i64 (Pl.boundsOf zs0).w, .int .i64 (Pl.boundsOf zs0).h] 44 (0, 0))) = w11 at *
  obtain ⟨la0w11, ca0w11_0, fa0w11_0⟩ := Va0w11.out.open1
  obtain ⟨lww11, cww11_0, cww11_1, cww11_2, cww11_3, fww11_0, fww11_1, fww11_2, fww11_3⟩ := Vww11.out.open4
  obtain ⟨lxw11, cxw11_0, fxw11_0⟩ := Vxw11.out.open1
  obtain ⟨lgw11, cgw11_0, cgw11_1, cgw11_2, cgw11_3, fgw11_0, fgw11_1, fgw11_2, fgw11_3⟩ := Vgw11.out.open4
  refine (eqRect_same _ _ _ _ _).mono ?_
  rintro e w12 ⟨rfl, hbw12⟩
  clear la0w11 ca0w11_0 fa0w11_0 lww11 cww11_0 cww11_1 cww11_2 cww11_3 fww11_0 fww11_1 fww11_2 fww11_3 lxw11 cxw11_0 fxw11_0 lgw11 cgw11_0 cgw11_1 cgw11_2 cgw11_3 fgw11_0 fgw11_1 fgw11_2 fgw11_3
  have bbw12 := Lib.hid (later bbw11.out hbw12)
  have hzw12 := hbw12.size
  have Va0w12 := Lib.hid (Va0w11.out.step hbw12)
  have Vww12 := Lib.hid (Vww11.out.step hbw12)
  have Vxw12 := Lib.hid (Vxw11.out.step hbw12)
  have Vgw12 := Lib.hid (Vgw11.out.step hbw12)
  have Iuw12 : Hid _ := Lib.hid (Iuw11.out.step hbw12)
  have Ixw12 : Hid _ := Lib.hid (Ixw11.out.step hbw12)
  clear Va0w11
  clear Vww11
  clear Vxw11
  clear Vgw11
  clear Iuw11
  clear Ixw11
  obtain ⟨la0w12, ca0w12_0, fa0w12_0⟩ := Va0w12.out.open1
  obtain ⟨lww12, cww12_0, cww12_1, cww12_2, cww12_3, fww12_0, fww12_1, fww12_2, fww12_3⟩ := Vww12.out.open4
  obtain ⟨lxw12, cxw12_0, fxw12_0⟩ := Vxw12.out.open1
  obtain ⟨lgw12, cgw12_0, cgw12_1, cgw12_2, cgw12_3, fgw12_0, fgw12_1, fgw12_2, fgw12_3⟩ := Vgw12.out.open4
  go_wp2_with fail
  clear la0w12 ca0w12_0 fa0w12_0 lww12 cww12_0 cww12_1 cww12_2 cww12_3 fww12_0 fww12_1 fww12_2 fww12_3 lxw12 cxw12_0 fxw12_0 lgw12 cgw12_0 cgw12_1 cgw12_2 cgw12_3 fgw12_0 fgw12_1 fgw12_2 fgw12_3
  have bbw13 : Hid (Below w.heap.size w w12.drew) := Lib.hid (Below.drew bbw12.out)
  have hzw13 : w12.heap.size ≤ w12.drew.heap.size := Nat.le_refl _
  have Va0w13 := Lib.hid (VB.drew Va0w12.out)
  have Vww13 := Lib.hid (VB.drew Vww12.out)
  have Vxw13 := Lib.hid (VB.drew Vxw12.out)
  have Vgw13 := Lib.hid (VB.drew Vgw12.out)
  have Iuw13 : Hid _ := Lib.hid (show Recs w12.drew _ _ _ _ from Iuw12.out)
  have Ixw13 : Hid _ := Lib.hid (show Recs w12.drew _ _ _ _ from Ixw12.out)
  refine regionL (S := (fun w' => VB w' (w8.heap.size) [.slice Aw8 zs0.length kw8] ∧ VB w' (w.heap.size) [.slice A0 n0 c0])) (L := 5) (by kernel_rfl) ?_ (fun hHeld => ?_)
  · (first | exact ⟨VB.step (hHeld.1) B9, VB.step (hHeld.2) B9⟩ | exact ⟨VB.alloc (hHeld.1) _, VB.alloc (hHeld.2) _⟩ | exact ⟨VB.drew (VB.alloc (show VB w12 _ _ from hHeld.1) _), VB.drew (VB.alloc (show VB w12 _ _ from hHeld.2) _)⟩ | exact ⟨VB.drew Vxw12.out, VB.drew Va0w12.out⟩)
  refine takeL (i := 0) (oi := ?_) (v := ?_) ?_ (by kernel_rfl) (by kernel_rfl) (by kernel_rfl) (by kernel_rfl) ?_ (Or.inl ⟨?_, ?_⟩) (by assumption) ?_
  rotate_left 2
  · (simp only [List.getElem?_toArray, List.getElem?_cons_succ, List.getElem?_cons_zero]; rfl)
  · exact fun _ _ _ h => h
  · rfl
  · (intro w hSw; (try dsimp only at hSw); obtain ⟨S0, S1⟩ := hSw; obtain ⟨l0S, c0S0, _⟩ := S0.open1; obtain ⟨l1S, c1S0, _⟩ := S1.open1; clear S0 S1; go_simp; (try with_reducible rfl))
  try simp only [Act.put, List.setIfInBounds_toArray, List.set_cons_zero, List.set_cons_succ]
  refine takeL (i := 1) (oi := ?_) (v := ?_) ?_ (by kernel_rfl) (by kernel_rfl) (by kernel_rfl) (by kernel_rfl) ?_ (Or.inl ⟨?_, ?_⟩) (by assumption) ?_
  rotate_left 2
  · (simp only [List.getElem?_toArray, List.getElem?_cons_succ, List.getElem?_cons_zero]; rfl)
  · exact fun _ _ _ h => h
  · rfl
  · (intro w hSw; (try dsimp only at hSw); obtain ⟨S0, S1⟩ := hSw; obtain ⟨l0S, c0S0, _⟩ := S0.open1; obtain ⟨l1S, c1S0, _⟩ := S1.open1; clear S0 S1; go_simp; (try with_reducible rfl))
  try simp only [Act.put, List.setIfInBounds_toArray, List.set_cons_zero, List.set_cons_succ]
  refine readyL (rs := [2]) (by kernel_rfl) (by simp) ?_
  refine AllReadyL.cons (o := ?_) ?_ (fun K hK => ?_) AllReadyL.none_
  rotate_left
  · (simp only [List.getElem?_toArray, List.getElem?_cons_succ, List.getElem?_cons_zero]; rfl)
  go_simp
  go_at_call 15
  ((with_reducible refine (toRegion_any _ _ _ zs0 _ (arg0.out.below bbw13.out) L0.out hsm0).mono ?_))
  rintro e w14 ⟨Aw14, kw14, rfl, Ow14, hbw14⟩
  have Pw14 := Lib.hid Ow14
  clear Ow14
  have bbw14 := Lib.hid (later bbw13.out hbw14)
  have hzw14 := hbw14.size
  have Va0w14 := Lib.hid (Va0w13.out.step hbw14)
  have Vww14 := Lib.hid (Vww13.out.step hbw14)
  have Vxw14 := Lib.hid (Vxw13.out.step hbw14)
  have Vgw14 := Lib.hid (Vgw13.out.step hbw14)
  have Iuw14 : Hid _ := Lib.hid (Iuw13.out.step hbw14)
  have Ixw14 : Hid _ := Lib.hid (Ixw13.out.step hbw14)
  clear Va0w13
  clear Vww13
  clear Vxw13
  clear Vgw13
  clear Iuw13
  clear Ixw13
  obtain ⟨la0w14, ca0w14_0, fa0w14_0⟩ := Va0w14.out.open1
  obtain ⟨lww14, cww14_0, cww14_1, cww14_2, cww14_3, fww14_0, fww14_1, fww14_2, fww14_3⟩ := Vww14.out.open4
  obtain ⟨lxw14, cxw14_0, fxw14_0⟩ := Vxw14.out.open1
  obtain ⟨lgw14, cgw14_0, cgw14_1, cgw14_2, cgw14_3, fgw14_0, fgw14_1, fgw14_2, fgw14_3⟩ := Vgw14.out.open4
  have Itw14 := Pw14
  clear Pw14
  have B9 := hbw14
  refine hK.out _ _ ?_ (fun hHeld => ?_)
  · (first | exact ⟨VB.step (hHeld.1) B9, VB.step (hHeld.2) B9⟩ | exact ⟨VB.alloc (hHeld.1) _, VB.alloc (hHeld.2) _⟩ | exact ⟨VB.drew (VB.alloc (show VB w12 _ _ from hHeld.1) _), VB.drew (VB.alloc (show VB w12 _ _ from hHeld.2) _)⟩ | exact ⟨VB.drew Vxw12.out, VB.drew Va0w12.out⟩)
  clear hK K
  try simp only [Act.put, List.setIfInBounds_toArray, List.set_cons_zero, List.set_cons_succ]
  refine readyL (rs := [3]) (by kernel_rfl) (by simp) ?_
  refine AllReadyL.cons (o := ?_) ?_ (fun K hK => ?_) AllReadyL.none_
  rotate_left
  · (simp only [List.getElem?_toArray, List.getElem?_cons_succ, List.getElem?_cons_zero]; rfl)
  go_simp
  go_at_call 17
  ((with_reducible refine (eqRegion_same _ _ _ _ _ _ zs0 _ (Recs.arg Ixw14.out) (Recs.arg Itw14.out) rfl rfl (by omega) (by omega)).mono ?_))
  rintro e w15 ⟨rfl, hbw15⟩
  clear la0w14 ca0w14_0 fa0w14_0 lww14 cww14_0 cww14_1 cww14_2 cww14_3 fww14_0 fww14_1 fww14_2 fww14_3 lxw14 cxw14_0 fxw14_0 lgw14 cgw14_0 cgw14_1 cgw14_2 cgw14_3 fgw14_0 fgw14_1 fgw14_2 fgw14_3
  have bbw15 := Lib.hid (later bbw14.out hbw15)
  have hzw15 := hbw15.size
  have Va0w15 := Lib.hid (Va0w14.out.step hbw15)
  have Vww15 := Lib.hid (Vww14.out.step hbw15)
  have Vxw15 := Lib.hid (Vxw14.out.step hbw15)
  have Vgw15 := Lib.hid (Vgw14.out.step hbw15)
  have Iuw15 : Hid _ := Lib.hid (Iuw14.out.step hbw15)
  have Ixw15 : Hid _ := Lib.hid (Ixw14.out.step hbw15)
  have Itw15 : Hid _ := Lib.hid (Itw14.out.step hbw15)
  clear Va0w14
  clear Vww14
  clear Vxw14
  clear Vgw14
  clear Iuw14
  clear Ixw14
  clear Itw14
  obtain ⟨la0w15, ca0w15_0, fa0w15_0⟩ := Va0w15.out.open1
  obtain ⟨lww15, cww15_0, cww15_1, cww15_2, cww15_3, fww15_0, fww15_1, fww15_2, fww15_3⟩ := Vww15.out.open4
  obtain ⟨lxw15, cxw15_0, fxw15_0⟩ := Vxw15.out.open1
  obtain ⟨lgw15, cgw15_0, cgw15_1, cgw15_2, cgw15_3, fgw15_0, fgw15_1, fgw15_2, fgw15_3⟩ := Vgw15.out.open4
  have B9 := hbw15
  refine hK.out _ _ ?_ (fun hHeld => ?_)
  · (first | exact ⟨VB.step (hHeld.1) B9, VB.step (hHeld.2) B9⟩ | exact ⟨VB.alloc (hHeld.1) _, VB.alloc (hHeld.2) _⟩ | exact ⟨VB.drew (VB.alloc (show VB w12 _ _ from hHeld.1) _), VB.drew (VB.alloc (show VB w12 _ _ from hHeld.2) _)⟩ | exact ⟨VB.drew Vxw12.out, VB.drew Va0w12.out⟩)
  clear hK K
  try simp only [Act.put, List.setIfInBounds_toArray, List.set_cons_zero, List.set_cons_succ]
  refine takeL (i := 4) (oi := ?_) (v := ?_) ?_ (by kernel_rfl) (by kernel_rfl) (by kernel_rfl) (by kernel_rfl) ?_ (Or.inl ⟨?_, ?_⟩) (by assumption) ?_
  rotate_left 2
  · (simp only [List.getElem?_toArray, List.getElem?_cons_succ, List.getElem?_cons_zero]; rfl)
  · exact fun _ _ _ h => h
  · rfl
  · (intro w hSw; (try dsimp only at hSw); obtain ⟨S0, S1⟩ := hSw; obtain ⟨l0S, c0S0, _⟩ := S0.open1; obtain ⟨l1S, c1S0, _⟩ := S1.open1; clear S0 S1; go_simp; (try with_reducible rfl))
  try simp only [Act.put, List.setIfInBounds_toArray, List.set_cons_zero, List.set_cons_succ]
  refine doneL (by kernel_rfl) ?_ _
  clear Itw15
  go_wp2_with fail
  go_ret
  exact ⟨rfl, bbw15.out⟩
end Go.Proofs.Ytlnailpefdlnnaa
