/- The law FnExactRegionOf: it returns true. -/
import Derived.Test.YtlnailpefdlnnaaWRegs
import Derived.BigQuiet
import Derived.Deep.Cut
import Derived.Deep.DeepCutAuto
import Derived.Test.YtlnailpefdlnnaaOrd
namespace Go.Proofs.Ytlnailpefdlnnaa
open Go.RowKit
set_option linter.unusedVariables false
set_option linter.unusedSimpArgs false
theorem Pl.unionOf_length (a b : List Pl.R) : (Pl.unionOf a b).length ≤ 256 := by
  unfold Pl.unionOf
  split
  · exact Pl.canon_length _
  · simp
theorem Pl.commonOf_length (a b : List Pl.R) : (Pl.commonOf a b).length ≤ 256 := by
  unfold Pl.commonOf
  split
  · exact Pl.canon_length _
  · simp
theorem Pl.withoutOf_length (a b : List Pl.R) : (Pl.withoutOf a b).length ≤ 256 := by
  unfold Pl.withoutOf
  split
  · exact Pl.canon_length _
  · simp
theorem eqRectS_same (A1 A2 : Option Addr) (n m c1 c2 : Nat) (zs : List Pl.R) (w : World) (H1 : RArg w A1 zs) (H2 : RArg w A2 zs) (L1 : zs.length = n) (L2 : zs.length = m) (b1 : n ≤ 9223372036854775807) (b2 : m ≤ 9223372036854775807) :
    Calls Try.prog 22 #[.slice A1 n c1, .slice A2 m c2] w fun e w' => e = .returned (.bool true) ∧ Below w.heap.size w w' := by
  have h := eqRectS_any A1 A2 n m c1 c2 zs zs w H1 H2 L1 L2 b1 b2
  simpa using h
theorem markRectS_out (A : Option Addr) (n c lo hi : Nat) (zs : List Pl.R) (k0 : Int) (w : World) (H : Recs w lo hi (.slice A n c) zs) (h0 : 0 ≤ k0) (h1 : k0 + 4 * n ≤ 4611686018427387904) :
    Calls Try.prog 23 #[.slice A n c, .int .i64 k0] w fun e w' => e = .returned (.int .i64 (k0 + 4 * n)) ∧ Recs w' lo hi (.slice A n c) (Pl.rmarks k0 n) ∧ Out lo hi w w' :=
  (markRectS_any A n c lo hi zs k0 w H h0 h1).mono fun e w' ⟨a, b, c, _⟩ => ⟨a, b, c⟩
set_option maxRecDepth 100000 in
set_option maxHeartbeats 8000000 in
theorem walkFnExactRegionOf (A0 : Option Addr) (n0 c0 : Nat) (z0 : List Pl.R) (w : World) (hr0 : IsRects w A0 n0 c0 z0) : Calls Try.prog 4 #[.slice A0 n0 c0] w fun e w' => e = .returned (.bool true) ∧ Below w.heap.size w w' := by
  have bbw : Hid (Below w.heap.size w w) := Lib.hid (Below.refl _ _)
  obtain ⟨ha0, hl0, hm0⟩ := RArg.of_rects hr0
  generalize z0.take n0 = zs0 at *
  have arg0 := Lib.hid ha0
  have L0 := Lib.hid hl0
  clear ha0 hl0 hr0
  by_cases hbig0 : 1048576 < (n0 : Int)
  · have hs := szd_big hbig0
    have HS := Lib.hid hs
    clear hs
    go_enter Try.func4, Try.ntmps4
    go_wp2_with fail
    refine (szRectS_any _ _ _ _ _ (by omega) (by omega) (by omega)).mono ?_
    rintro e w' ⟨rfl, rfl⟩
    rw [HS.out]
    go_wp2_with fail
    go_ret
    exact ⟨rfl, bbw.out⟩
  have hsm0 : n0 ≤ 1048576 := by omega
  have hN0 : zs0.length ≤ 1048576 := by rw [L0.out]; exact hsm0
  go_enter Try.func4, Try.ntmps4
  go_wp2_with fail
  refine (szRectS_any _ _ _ _ _ (by omega) (by omega) (by omega)).mono ?_
  rintro e w' ⟨rfl, rfl⟩
  rw [szd_small (by omega)]
  have h256 := Pl.regionOf_length zs0
  go_wp2_with fail
  refine (toRectS_any _ _ _ zs0 _ (arg0.out.below bbw.out) L0.out hsm0).mono ?_
  rintro e w1 ⟨Aw1, kw1, rfl, Ow1, hbw1⟩
  have Pw1 := Lib.hid Ow1
  clear Ow1
  have bbw1 := Lib.hid (later bbw.out hbw1)
  have hzw1 := hbw1.size
  have Itw1 := Pw1
  clear Pw1
  go_wp2_with fail
  refine (specRegionOf _ _ _ zs0 _ (Recs.arg Itw1.out) rfl (by omega)).mono ?_
  rintro e w2 ⟨Aw2, kw2, rfl, Ow2, hbw2⟩
  have Pw2 := Lib.hid Ow2
  clear Ow2
  have bbw2 := Lib.hid (later bbw1.out hbw2)
  have hzw2 := hbw2.size
  have Itw2 : Hid _ := Lib.hid (Itw1.out.step hbw2)
  clear Itw1
  have Iww2 := Pw2
  clear Pw2
  go_wp2_with fail
  have Itw3 : Hid _ := Lib.hid ((Itw2.out).alloc (.cells #[.slice Aw2 (Pl.regionOf zs0).length kw2] 29 (0, 0)))
  have Iww3 : Hid _ := Lib.hid ((Iww2.out).alloc (.cells #[.slice Aw2 (Pl.regionOf zs0).length kw2] 29 (0, 0)))
  have Vww3 := Lib.hid (VB.new (w := w2) (b := w2.heap.size) (t := 29) (cs := [.slice Aw2 (Pl.regionOf zs0).length kw2]) (by simp))
  have hbw3 : Below w2.heap.size w2 (w2.alloc (.cells #[.slice Aw2 (Pl.regionOf zs0).length kw2] 29 (0, 0))) := by go_grown
  have bbw3 : Hid (Below w.heap.size w (w2.alloc (.cells #[.slice Aw2 (Pl.regionOf zs0).length kw2] 29 (0, 0)))) := Lib.hid (later bbw2.out hbw3)
  have hzw3 : w2.heap.size + 1 ≤ (w2.alloc (.cells #[.slice Aw2 (Pl.regionOf zs0).length kw2] 29 (0, 0))).heap.size := by simp
  generalize (w2.alloc (.cells #[.slice Aw2 (Pl.regionOf zs0).length kw2] 29 (0, 0))) = w3 at *
  obtain ⟨lww3, cww3_0, fww3_0⟩ := Vww3.out.open1
  clear Itw3
  go_wp2_with fail
  refine (toRectS_any _ _ _ zs0 _ (arg0.out.below bbw3.out) L0.out hsm0).mono ?_
  rintro e w4 ⟨Aw4, kw4, rfl, Ow4, hbw4⟩
  have Pw4 := Lib.hid Ow4
  clear Ow4
  clear lww3 cww3_0 fww3_0
  have bbw4 := Lib.hid (later bbw3.out hbw4)
  have hzw4 := hbw4.size
  have Vww4 := Lib.hid (Vww3.out.step hbw4)
  have Iww4 : Hid _ := Lib.hid (Iww3.out.step hbw4)
  clear Vww3
  clear Iww3
  obtain ⟨lww4, cww4_0, fww4_0⟩ := Vww4.out.open1
  have Ixw4 := Pw4
  clear Pw4
  go_wp2_with fail
  refine (implRegionOf _ _ _ zs0 _ (Recs.arg Ixw4.out) rfl (by omega)).mono ?_
  rintro e w5 ⟨Aw5, kw5, rfl, Ow5, hbw5⟩
  have Pw5 := Lib.hid Ow5
  clear Ow5
  clear lww4 cww4_0 fww4_0
  have bbw5 := Lib.hid (later bbw4.out hbw5)
  have hzw5 := hbw5.size
  have Vww5 := Lib.hid (Vww4.out.step hbw5)
  have Iww5 : Hid _ := Lib.hid (Iww4.out.step hbw5)
  have Ixw5 : Hid _ := Lib.hid (Ixw4.out.step hbw5)
  clear Vww4
  clear Iww4
  clear Ixw4
  obtain ⟨lww5, cww5_0, fww5_0⟩ := Vww5.out.open1
  have Igw5 := Pw5
  clear Pw5
  go_wp2_with fail
  clear lww5 cww5_0 fww5_0
  have Vww6 := Lib.hid ((Vww5.out).alloc (.cells #[.slice Aw5 (Pl.regionOf zs0).length kw5] 29 (0, 0)))
  have Iww6 : Hid _ := Lib.hid ((Iww5.out).alloc (.cells #[.slice Aw5 (Pl.regionOf zs0).length kw5] 29 (0, 0)))
  have Ixw6 : Hid _ := Lib.hid ((Ixw5.out).alloc (.cells #[.slice Aw5 (Pl.regionOf zs0).length kw5] 29 (0, 0)))
  have Igw6 : Hid _ := Lib.hid ((Igw5.out).alloc (.cells #[.slice Aw5 (Pl.regionOf zs0).length kw5] 29 (0, 0)))
  have Vgw6 := Lib.hid (VB.new (w := w5) (b := w5.heap.size) (t := 29) (cs := [.slice Aw5 (Pl.regionOf zs0).length kw5]) (by simp))
  have hbw6 : Below w5.heap.size w5 (w5.alloc (.cells #[.slice Aw5 (Pl.regionOf zs0).length kw5] 29 (0, 0))) := by go_grown
  have bbw6 : Hid (Below w.heap.size w (w5.alloc (.cells #[.slice Aw5 (Pl.regionOf zs0).length kw5] 29 (0, 0)))) := Lib.hid (later bbw5.out hbw6)
  have hzw6 : w5.heap.size + 1 ≤ (w5.alloc (.cells #[.slice Aw5 (Pl.regionOf zs0).length kw5] 29 (0, 0))).heap.size := by simp
  generalize (w5.alloc (.cells #[.slice Aw5 (Pl.regionOf zs0).length kw5] 29 (0, 0))) = w6 at *
  obtain ⟨lww6, cww6_0, fww6_0⟩ := Vww6.out.open1
  obtain ⟨lgw6, cgw6_0, fgw6_0⟩ := Vgw6.out.open1
  refine (eqRegion_same _ _ _ _ _ _ (Pl.regionOf zs0) _ (Recs.arg Igw6.out) (Recs.arg Iww6.out) rfl rfl (by omega) (by omega)).mono ?_
  rintro e w7 ⟨rfl, hbw7⟩
  clear lww6 cww6_0 fww6_0 lgw6 cgw6_0 fgw6_0
  have bbw7 := Lib.hid (later bbw6.out hbw7)
  have hzw7 := hbw7.size
  have Vww7 := Lib.hid (Vww6.out.step hbw7)
  have Vgw7 := Lib.hid (Vgw6.out.step hbw7)
  have Iww7 : Hid _ := Lib.hid (Iww6.out.step hbw7)
  have Ixw7 : Hid _ := Lib.hid (Ixw6.out.step hbw7)
  have Igw7 : Hid _ := Lib.hid (Igw6.out.step hbw7)
  clear Vww6
  clear Vgw6
  clear Iww6
  clear Ixw6
  clear Igw6
  obtain ⟨lww7, cww7_0, fww7_0⟩ := Vww7.out.open1
  obtain ⟨lgw7, cgw7_0, fgw7_0⟩ := Vgw7.out.open1
  go_wp2_with fail
  refine (toRectS_any _ _ _ zs0 _ (arg0.out.below bbw7.out) L0.out hsm0).mono ?_
  rintro e w8 ⟨Aw8, kw8, rfl, Ow8, hbw8⟩
  have Pw8 := Lib.hid Ow8
  clear Ow8
  clear lww7 cww7_0 fww7_0 lgw7 cgw7_0 fgw7_0
  have bbw8 := Lib.hid (later bbw7.out hbw8)
  have hzw8 := hbw8.size
  have Vww8 := Lib.hid (Vww7.out.step hbw8)
  have Vgw8 := Lib.hid (Vgw7.out.step hbw8)
  have Iww8 : Hid _ := Lib.hid (Iww7.out.step hbw8)
  have Ixw8 : Hid _ := Lib.hid (Ixw7.out.step hbw8)
  have Igw8 : Hid _ := Lib.hid (Igw7.out.step hbw8)
  clear Vww7
  clear Vgw7
  clear Iww7
  clear Ixw7
  clear Igw7
  obtain ⟨lww8, cww8_0, fww8_0⟩ := Vww8.out.open1
  obtain ⟨lgw8, cgw8_0, fgw8_0⟩ := Vgw8.out.open1
  have Itw8 := Pw8
  clear Pw8
  go_wp2_with fail
  refine (eqRectS_same _ _ _ _ _ _ zs0 _ (Recs.arg Ixw8.out) (Recs.arg Itw8.out) rfl rfl (by omega) (by omega)).mono ?_
  rintro e w9 ⟨rfl, hbw9⟩
  clear lww8 cww8_0 fww8_0 lgw8 cgw8_0 fgw8_0
  have bbw9 := Lib.hid (later bbw8.out hbw9)
  have hzw9 := hbw9.size
  have Vww9 := Lib.hid (Vww8.out.step hbw9)
  have Vgw9 := Lib.hid (Vgw8.out.step hbw9)
  have Iww9 : Hid _ := Lib.hid (Iww8.out.step hbw9)
  have Ixw9 : Hid _ := Lib.hid (Ixw8.out.step hbw9)
  have Igw9 : Hid _ := Lib.hid (Igw8.out.step hbw9)
  have Itw9 : Hid _ := Lib.hid (Itw8.out.step hbw9)
  clear Vww8
  clear Vgw8
  clear Iww8
  clear Ixw8
  clear Igw8
  clear Itw8
  obtain ⟨lww9, cww9_0, fww9_0⟩ := Vww9.out.open1
  obtain ⟨lgw9, cgw9_0, fgw9_0⟩ := Vgw9.out.open1
  clear Itw9
  go_wp2_with fail
  refine (markRectS_out _ _ _ _ _ zs0 1 _ Ixw9.out (by omega) (by omega)).mono ?_
  rintro e w10 ⟨rfl, Ow10, how10⟩
  clear lww9 cww9_0 fww9_0 lgw9 cgw9_0 fgw9_0
  have bbw10 := Lib.hid (below_out bbw9.out how10 (by first | omega | (have := bbw9.out.size; omega)) bbw9.out.size)
  have hzw10 := how10.size
  have Vww10 := Lib.hid (Vww9.out.out how10 (by omega))
  have Vgw10 := Lib.hid (Vgw9.out.out how10 (by omega))
  have Iww10 : Hid _ := Lib.hid (Iww9.out.out how10 (by omega))
  have Igw10 : Hid _ := Lib.hid (Igw9.out.out how10 (by omega))
  have Ixw10 := Lib.hid Ow10
  clear Ow10
  clear Vww9
  clear Vgw9
  clear Iww9
  clear Ixw9
  clear Igw9
  obtain ⟨lww10, cww10_0, fww10_0⟩ := Vww10.out.open1
  obtain ⟨lgw10, cgw10_0, fgw10_0⟩ := Vgw10.out.open1
  go_wp2_with fail
  refine (eqRegion_same _ _ _ _ _ _ (Pl.regionOf zs0) _ (Recs.arg Igw10.out) (Recs.arg Iww10.out) rfl rfl (by omega) (by omega)).mono ?_
  rintro e w11 ⟨rfl, hbw11⟩
  clear lww10 cww10_0 fww10_0 lgw10 cgw10_0 fgw10_0
  have bbw11 := Lib.hid (later bbw10.out hbw11)
  have hzw11 := hbw11.size
  have Vww11 := Lib.hid (Vww10.out.step hbw11)
  have Vgw11 := Lib.hid (Vgw10.out.step hbw11)
  have Iww11 : Hid _ := Lib.hid (Iww10.out.step hbw11)
  have Ixw11 : Hid _ := Lib.hid (Ixw10.out.step hbw11)
  have Igw11 : Hid _ := Lib.hid (Igw10.out.step hbw11)
  clear Vww10
  clear Vgw10
  clear Iww10
  clear Ixw10
  clear Igw10
  obtain ⟨lww11, cww11_0, fww11_0⟩ := Vww11.out.open1
  obtain ⟨lgw11, cgw11_0, fgw11_0⟩ := Vgw11.out.open1
  go_wp2_with fail
  refine (markRegion_any _ _ _ _ _ (Pl.regionOf zs0) 1 _ Igw11.out (by omega) (by omega)).mono ?_
  rintro e w12 ⟨rfl, Ow12, how12⟩
  clear lww11 cww11_0 fww11_0 lgw11 cgw11_0 fgw11_0
  have bbw12 := Lib.hid (below_out bbw11.out how12 (by first | omega | (have := bbw11.out.size; omega)) bbw11.out.size)
  have hzw12 := how12.size
  have Vww12 := Lib.hid (Vww11.out.out how12 (by omega))
  have Vgw12 := Lib.hid (Vgw11.out.out how12 (by omega))
  have Iww12 : Hid _ := Lib.hid (Iww11.out.out how12 (by omega))
  have Ixw12 : Hid _ := Lib.hid (Ixw11.out.out how12 (by omega))
  have Igw12 := Lib.hid Ow12
  clear Ow12
  clear Vww11
  clear Vgw11
  clear Iww11
  clear Ixw11
  clear Igw11
  obtain ⟨lww12, cww12_0, fww12_0⟩ := Vww12.out.open1
  obtain ⟨lgw12, cgw12_0, fgw12_0⟩ := Vgw12.out.open1
  go_wp2_with fail
  refine (heldRegion_same _ _ _ 1 _ (Recs.arg Igw12.out) (by omega) (by omega)).mono ?_
  rintro e w13 ⟨rfl, hbw13⟩
  clear lww12 cww12_0 fww12_0 lgw12 cgw12_0 fgw12_0
  have bbw13 := Lib.hid (later bbw12.out hbw13)
  have hzw13 := hbw13.size
  have Vww13 := Lib.hid (Vww12.out.step hbw13)
  have Vgw13 := Lib.hid (Vgw12.out.step hbw13)
  have Iww13 : Hid _ := Lib.hid (Iww12.out.step hbw13)
  have Ixw13 : Hid _ := Lib.hid (Ixw12.out.step hbw13)
  have Igw13 : Hid _ := Lib.hid (Igw12.out.step hbw13)
  clear Vww12
  clear Vgw12
  clear Iww12
  clear Ixw12
  clear Igw12
  obtain ⟨lww13, cww13_0, fww13_0⟩ := Vww13.out.open1
  obtain ⟨lgw13, cgw13_0, fgw13_0⟩ := Vgw13.out.open1
  go_wp2_with fail
  refine (toRectS_any _ _ _ zs0 _ (arg0.out.below bbw13.out) L0.out hsm0).mono ?_
  rintro e w14 ⟨Aw14, kw14, rfl, Ow14, hbw14⟩
  have Pw14 := Lib.hid Ow14
  clear Ow14
  clear lww13 cww13_0 fww13_0 lgw13 cgw13_0 fgw13_0
  have bbw14 := Lib.hid (later bbw13.out hbw14)
  have hzw14 := hbw14.size
  have Vww14 := Lib.hid (Vww13.out.step hbw14)
  have Vgw14 := Lib.hid (Vgw13.out.step hbw14)
  have Iww14 : Hid _ := Lib.hid (Iww13.out.step hbw14)
  have Ixw14 : Hid _ := Lib.hid (Ixw13.out.step hbw14)
  have Igw14 : Hid _ := Lib.hid (Igw13.out.step hbw14)
  clear Vww13
  clear Vgw13
  clear Iww13
  clear Ixw13
  clear Igw13
  obtain ⟨lww14, cww14_0, fww14_0⟩ := Vww14.out.open1
  obtain ⟨lgw14, cgw14_0, fgw14_0⟩ := Vgw14.out.open1
  have Itw14 := Pw14
  clear Pw14
  go_wp2_with fail
  refine (implRegionOf _ _ _ zs0 _ (Recs.arg Itw14.out) rfl (by omega)).mono ?_
  rintro e w15 ⟨Aw15, kw15, rfl, Ow15, hbw15⟩
  have Pw15 := Lib.hid Ow15
  clear Ow15
  clear lww14 cww14_0 fww14_0 lgw14 cgw14_0 fgw14_0
  have bbw15 := Lib.hid (later bbw14.out hbw15)
  have hzw15 := hbw15.size
  have Vww15 := Lib.hid (Vww14.out.step hbw15)
  have Vgw15 := Lib.hid (Vgw14.out.step hbw15)
  have Iww15 : Hid _ := Lib.hid (Iww14.out.step hbw15)
  have Ixw15 : Hid _ := Lib.hid (Ixw14.out.step hbw15)
  have Igw15 : Hid _ := Lib.hid (Igw14.out.step hbw15)
  have Itw15 : Hid _ := Lib.hid (Itw14.out.step hbw15)
  clear Vww14
  clear Vgw14
  clear Iww14
  clear Ixw14
  clear Igw14
  clear Itw14
  obtain ⟨lww15, cww15_0, fww15_0⟩ := Vww15.out.open1
  obtain ⟨lgw15, cgw15_0, fgw15_0⟩ := Vgw15.out.open1
  have Ihw15 := Pw15
  clear Pw15
  go_wp2_with fail
  clear lww15 cww15_0 fww15_0 lgw15 cgw15_0 fgw15_0
  have Vww16 := Lib.hid ((Vww15.out).alloc (.cells #[.slice Aw15 (Pl.regionOf zs0).length kw15] 29 (0, 0)))
  have Vgw16 := Lib.hid ((Vgw15.out).alloc (.cells #[.slice Aw15 (Pl.regionOf zs0).length kw15] 29 (0, 0)))
  have Iww16 : Hid _ := Lib.hid ((Iww15.out).alloc (.cells #[.slice Aw15 (Pl.regionOf zs0).length kw15] 29 (0, 0)))
  have Ixw16 : Hid _ := Lib.hid ((Ixw15.out).alloc (.cells #[.slice Aw15 (Pl.regionOf zs0).length kw15] 29 (0, 0)))
  have Igw16 : Hid _ := Lib.hid ((Igw15.out).alloc (.cells #[.slice Aw15 (Pl.regionOf zs0).length kw15] 29 (0, 0)))
  have Itw16 : Hid _ := Lib.hid ((Itw15.out).alloc (.cells #[.slice Aw15 (Pl.regionOf zs0).length kw15] 29 (0, 0)))
  have Ihw16 : Hid _ := Lib.hid ((Ihw15.out).alloc (.cells #[.slice Aw15 (Pl.regionOf zs0).length kw15] 29 (0, 0)))
  have Vhw16 := Lib.hid (VB.new (w := w15) (b := w15.heap.size) (t := 29) (cs := [.slice Aw15 (Pl.regionOf zs0).length kw15]) (by simp))
  have hbw16 : Below w15.heap.size w15 (w15.alloc (.cells #[.slice Aw15 (Pl.regionOf zs0).length kw15] 29 (0, 0))) := by go_grown
  have bbw16 : Hid (Below w.heap.size w (w15.alloc (.cells #[.slice Aw15 (Pl.regionOf zs0).length kw15] 29 (0, 0)))) := Lib.hid (later bbw15.out hbw16)
  have hzw16 : w15.heap.size + 1 ≤ (w15.alloc (.cells #[.slice Aw15 (Pl.regionOf zs0).length kw15] 29 (0, 0))).heap.size := by simp
  generalize (w15.alloc (.cells #[.slice Aw15 (Pl.regionOf zs0).length kw15] 29 (0, 0))) = w16 at *
  obtain ⟨lww16, cww16_0, fww16_0⟩ := Vww16.out.open1
  obtain ⟨lgw16, cgw16_0, fgw16_0⟩ := Vgw16.out.open1
  obtain ⟨lhw16, chw16_0, fhw16_0⟩ := Vhw16.out.open1
  clear Itw16
  refine (eqRegion_same _ _ _ _ _ _ (Pl.regionOf zs0) _ (Recs.arg Ihw16.out) (Recs.arg Iww16.out) rfl rfl (by omega) (by omega)).mono ?_
  rintro e w17 ⟨rfl, hbw17⟩
  clear lww16 cww16_0 fww16_0 lgw16 cgw16_0 fgw16_0 lhw16 chw16_0 fhw16_0
  have bbw17 := Lib.hid (later bbw16.out hbw17)
  have hzw17 := hbw17.size
  have Vww17 := Lib.hid (Vww16.out.step hbw17)
  have Vgw17 := Lib.hid (Vgw16.out.step hbw17)
  have Vhw17 := Lib.hid (Vhw16.out.step hbw17)
  have Iww17 : Hid _ := Lib.hid (Iww16.out.step hbw17)
  have Ixw17 : Hid _ := Lib.hid (Ixw16.out.step hbw17)
  have Igw17 : Hid _ := Lib.hid (Igw16.out.step hbw17)
  have Ihw17 : Hid _ := Lib.hid (Ihw16.out.step hbw17)
  clear Vww16
  clear Vgw16
  clear Vhw16
  clear Iww16
  clear Ixw16
  clear Igw16
  clear Ihw16
  obtain ⟨lww17, cww17_0, fww17_0⟩ := Vww17.out.open1
  obtain ⟨lgw17, cgw17_0, fgw17_0⟩ := Vgw17.out.open1
  obtain ⟨lhw17, chw17_0, fhw17_0⟩ := Vhw17.out.open1
  go_wp2_with fail
  refine (heldRegion_same _ _ _ 1 _ (Recs.arg Igw17.out) (by omega) (by omega)).mono ?_
  rintro e w18 ⟨rfl, hbw18⟩
  clear lww17 cww17_0 fww17_0 lgw17 cgw17_0 fgw17_0 lhw17 chw17_0 fhw17_0
  have bbw18 := Lib.hid (later bbw17.out hbw18)
  have hzw18 := hbw18.size
  have Vww18 := Lib.hid (Vww17.out.step hbw18)
  have Vgw18 := Lib.hid (Vgw17.out.step hbw18)
  have Vhw18 := Lib.hid (Vhw17.out.step hbw18)
  have Iww18 : Hid _ := Lib.hid (Iww17.out.step hbw18)
  have Ixw18 : Hid _ := Lib.hid (Ixw17.out.step hbw18)
  have Igw18 : Hid _ := Lib.hid (Igw17.out.step hbw18)
  have Ihw18 : Hid _ := Lib.hid (Ihw17.out.step hbw18)
  clear Vww17
  clear Vgw17
  clear Vhw17
  clear Iww17
  clear Ixw17
  clear Igw17
  clear Ihw17
  obtain ⟨lww18, cww18_0, fww18_0⟩ := Vww18.out.open1
  obtain ⟨lgw18, cgw18_0, fgw18_0⟩ := Vgw18.out.open1
  obtain ⟨lhw18, chw18_0, fhw18_0⟩ := Vhw18.out.open1
  go_wp2_with fail
  go_ret
  exact ⟨rfl, bbw18.out⟩
end Go.Proofs.Ytlnailpefdlnnaa
