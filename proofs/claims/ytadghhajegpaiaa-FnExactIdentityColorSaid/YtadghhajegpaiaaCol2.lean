/- The law FnExactIdentityColor, and the laws' helpers over color maps. -/
import Derived.Test.YtadghhajegpaiaaCol
namespace Go.Proofs.Ytadghhajegpaiaa
open Go.RowKit
set_option maxHeartbeats 1000000 in
theorem eqColorMap_same (A1 A2 A3 A4 : Option Addr) (n m c1 c2 c3 c4 l1 h1 l2 h2 l3 h3 l4 h4 : Nat) (xs ys : List Int) (w : World) (I1 : Ints w l1 h1 (.slice A1 n c1) xs) (I2 : Ints w l2 h2 (.slice A2 m c2) ys) (I3 : Ints w l3 h3 (.slice A3 n c3) xs) (I4 : Ints w l4 h4 (.slice A4 m c4) ys) :
    Calls Try.prog 47 #[.agg #[.slice A1 n c1, .slice A2 m c2], .agg #[.slice A3 n c3, .slice A4 m c4]] w fun e w' => e = .returned (.bool true) ∧ Below w.heap.size w w' := by
  have G1 := Lib.hid I1
  have G2 := Lib.hid I2
  have G3 := Lib.hid I3
  have G4 := Lib.hid I4
  clear I1 I2 I3 I4
  go_enter Try.func47, Try.ntmps47
  go_wp2_with fail
  refine (eqIntS_any _ _ _ _ _ _ l1 h1 l3 h3 xs xs _ (G1.out.step (by go_grown)) (G3.out.step (by go_grown))).mono ?_
  rw [show decide (xs = xs) = true by simp]
  rintro e w1 ⟨rfl, hb1⟩
  have ⟨k0, f0, y0⟩ := keep3 hb1 w.heap.size (by simp; omega)
  have ⟨k1, f1, y1⟩ := keep3 hb1 (w.heap.size + 1) (by simp)
  have B1 : Below w.heap.size w w1 := later (by go_grown) hb1
  go_wp2_with fail
  refine (eqIntS_any _ _ _ _ _ _ l2 h2 l4 h4 ys ys _ (G2.out.step B1) (G4.out.step B1)).mono ?_
  rw [show decide (ys = ys) = true by simp]
  rintro e w2 ⟨rfl, hb2⟩
  have B2 : Below w.heap.size w w2 := later B1 hb2
  go_wp2_with fail
  go_ret
  exact ⟨rfl, B2⟩
set_option maxHeartbeats 1000000 in
theorem markColorMap_any (A1 A2 : Option Addr) (n m c1 c2 lo mid hi : Nat) (xs ys : List Int) (k0 : Int) (w : World) (I1 : Ints w lo mid (.slice A1 n c1) xs) (I2 : Ints w mid hi (.slice A2 m c2) ys) (h0 : 0 ≤ k0) (h1 : k0 + n + m ≤ 1000000000) (hm : mid ≤ hi) (hl : lo ≤ mid) :
    Calls Try.prog 48 #[.agg #[.slice A1 n c1, .slice A2 m c2], .int .i64 k0] w fun e w' => e = .returned (.int .i64 (k0 + n + m)) ∧ Ints w' lo mid (.slice A1 n c1) (Pl.marks k0 n) ∧ Ints w' mid hi (.slice A2 m c2) (Pl.marks (k0 + n) m) ∧ Out lo hi w w' := by
  have G1 := Lib.hid I1
  have G2 := Lib.hid I2
  have hh := I2.hi_le
  clear I1 I2
  go_enter Try.func48, Try.ntmps48
  go_wp2_with fail
  refine (markIntS_any _ _ _ lo mid xs _ _ (Own.alloc G1.out _) h0 (by omega)).mono ?_
  rintro e w1 ⟨rfl, O1, ho1, hs1⟩
  have H1 := Lib.hid O1
  have ⟨k1, f1⟩ := ho1.keep w.heap.size (by simp) (.inr (by omega))
  have HS := Lib.hid hs1
  clear O1 hs1
  go_wp2_with fail
  refine (markIntS_any _ _ _ mid hi ys _ _ (Own.out (Own.alloc G2.out _) ho1 (.inr (Nat.le_refl _))) (by omega) (by omega)).mono ?_
  rintro e w2 ⟨rfl, O2, ho2, hs2⟩
  have H2 := Lib.hid O2
  clear O2 hs2
  go_wp2_with fail
  go_ret
  exact ⟨rfl, Own.out H1.out ho2 (.inl (Nat.le_refl _)), H2.out, (((Out.refl _ _ _).alloc _).trans (ho1.mono (Nat.le_refl _) hm)).trans (ho2.mono hl (Nat.le_refl _))⟩
set_option maxHeartbeats 1000000 in
theorem heldColorMap_same (A1 A2 : Option Addr) (n m c1 c2 l1 h1 l2 h2 : Nat) (k0 : Int) (w : World) (I1 : Ints w l1 h1 (.slice A1 n c1) (Pl.marks k0 n)) (I2 : Ints w l2 h2 (.slice A2 m c2) (Pl.marks (k0 + n) m)) (g0 : 0 ≤ k0) (g1 : k0 + n + m ≤ 1000000000) :
    Calls Try.prog 49 #[.agg #[.slice A1 n c1, .slice A2 m c2], .int .i64 k0] w fun e w' => e = .returned (.int .i64 (k0 + n + m)) ∧ Below w.heap.size w w' := by
  have G1 := Lib.hid I1
  have G2 := Lib.hid I2
  clear I1 I2
  go_enter Try.func49, Try.ntmps49
  go_wp2_with fail
  refine (heldIntS_same _ _ _ l1 h1 _ _ (Own.alloc G1.out _) g0 (by omega)).mono ?_
  rintro e w1 ⟨rfl, rfl⟩
  go_wp2_with fail
  refine (heldIntS_same _ _ _ l2 h2 _ _ (Own.alloc G2.out _) (by omega) (by omega)).mono ?_
  rintro e w1 ⟨rfl, rfl⟩
  go_wp2_with fail
  go_ret
  exact ⟨rfl, by go_grown⟩
set_option maxHeartbeats 4000000 in
theorem walkFnExactIdentityColor (w : World) : Calls Try.prog 14 #[] w fun e w' => e = .returned (.bool true) ∧ Below w.heap.size w w' := by
  have lx : Pl.diag.length = 9 := rfl
  have ly : (Pl.steps16 17).length = 17 := Pl.steps16_length 17
  have SP := Lib.hid (fun w => specIdentityColor w)
  have IP := Lib.hid (fun w => implIdentityColor w)
  go_enter Try.func14, Try.ntmps14
  go_wp2_with fail
  refine (SP.out _).mono ?_
  rintro e w1 ⟨A1, c1, A2, c2, m1, rfl, I1, I2, p1, p2, hb1⟩
  rw [lx] at I1 ⊢
  rw [ly] at I2 ⊢
  have G1 := Lib.hid I1
  have G2 := Lib.hid I2
  have t1 := hb1.size
  clear I1 I2
  go_wp2_with fail
  refine (IP.out _).mono ?_
  rintro e w2 ⟨A3, c3, A4, c4, m2, rfl, I3, I4, p3, p4, hb2⟩
  rw [lx] at I3 ⊢
  rw [ly] at I4 ⊢
  (try simp at p3)
  have G3 := Lib.hid I3
  have G4 := Lib.hid I4
  have X1 := Lib.hid (Box.of2 hb2 w1.heap.size (by simp) (v0 := .slice A1 9 c1) (v1 := .slice A2 17 c2) (by simp [go_sem]) (by simp [go_sem]))
  have b2 : Below w1.heap.size w1 w2 := later (by go_grown) hb2
  have B2 : Below w.heap.size w w2 := later hb1 b2
  have s2 := hb2.size
  (try simp at s2)
  have G1b := Lib.hid (G1.out.step b2)
  have G2b := Lib.hid (G2.out.step b2)
  have ⟨q0, q1, q2⟩ := X1.out.open2
  clear I3 I4 G1 G2 hb2
  go_wp2_with fail
  refine (eqColorMap_same _ _ _ _ _ _ _ _ _ _ _ _ _ _ _ _ _ _ Pl.diag (Pl.steps16 17) _ (G3.out.step (by go_grown)) (G4.out.step (by go_grown)) (G1b.out.step (by go_grown)) (G2b.out.step (by go_grown))).mono ?_
  rintro e w3 ⟨rfl, hb3⟩
  have b3 : Below w2.heap.size w2 w3 := later (by go_grown) hb3
  have B3 : Below w.heap.size w w3 := later B2 b3
  have X1c := Lib.hid (X1.out.step b3)
  have X2 := Lib.hid (Box.of2 hb3 w2.heap.size (by simp) (v0 := .slice A3 9 c3) (v1 := .slice A4 17 c4) (by simp [go_sem]) (by simp [go_sem]))
  have G1c := Lib.hid (G1b.out.step b3)
  have G2c := Lib.hid (G2b.out.step b3)
  have G3c := Lib.hid (G3.out.step b3)
  have G4c := Lib.hid (G4.out.step b3)
  have ⟨r0, r1, r2⟩ := X2.out.open2
  have s3 := hb3.size
  (try simp at s3)
  clear q0 q1 q2 hb3 G1b G2b G3 G4 X1
  go_wp2_with fail
  refine (markColorMap_any _ _ _ _ _ _ _ m2 _ Pl.diag (Pl.steps16 17) _ _ G3c.out G4c.out (by omega) (by omega) p4 (by simp; omega)).mono ?_
  rintro e w4 ⟨rfl, I3, I4, ho4⟩
  have ho4' := ho4.mono (lo' := w1.heap.size + 1) (by simp) (Nat.le_refl _)
  have B4 : Below w.heap.size w w4 := below_out B3 ho4' (by omega) B3.size
  have G3d := Lib.hid I3
  have G4d := Lib.hid I4
  have G1d := Lib.hid (G1c.out.out ho4' (.inl (by omega)))
  have G2d := Lib.hid (G2c.out.out ho4' (.inl (by omega)))
  have X1d := Lib.hid (X1c.out.out ho4' (by omega))
  have X2d := Lib.hid (X2.out.out ho4' (.inr (Nat.le_refl _)))
  have t4 := ho4.size
  have ⟨v0, v1, v2⟩ := X2d.out.open2
  clear I3 I4 ho4 G1c G2c G3c G4c X1c X2 r0 r1 r2
  go_wp2_with fail
  refine (heldColorMap_same _ _ _ _ _ _ _ _ _ _ _ _ G3d.out G4d.out (by omega) (by omega)).mono ?_
  rintro e w5 ⟨rfl, hb5⟩
  have B5 : Below w.heap.size w w5 := later B4 hb5
  have G1e := Lib.hid (G1d.out.step hb5)
  have G2e := Lib.hid (G2d.out.step hb5)
  have G3e := Lib.hid (G3d.out.step hb5)
  have G4e := Lib.hid (G4d.out.step hb5)
  have X1e := Lib.hid (X1d.out.step hb5)
  have X2e := Lib.hid (X2d.out.step hb5)
  clear v0 v1 v2 G1d G2d G3d G4d X1d X2d
  go_wp2_with fail
  refine (IP.out _).mono ?_
  rintro e w6 ⟨A5, c5, A6, c6, m3, rfl, I5, I6, p5, p6, hb6⟩
  rw [lx] at I5 ⊢
  rw [ly] at I6 ⊢
  have B6 : Below w.heap.size w w6 := later B5 hb6
  have G1f := Lib.hid (G1e.out.step hb6)
  have G2f := Lib.hid (G2e.out.step hb6)
  have G3f := Lib.hid (G3e.out.step hb6)
  have G4f := Lib.hid (G4e.out.step hb6)
  have X1f := Lib.hid (X1e.out.step hb6)
  have X2f := Lib.hid (X2e.out.step hb6)
  have G5 := Lib.hid I5
  have G6 := Lib.hid I6
  have ⟨q0, q1, q2⟩ := X1f.out.open2
  clear I5 I6 G1e G2e G3e G4e X1e X2e
  go_wp2_with fail
  refine (eqColorMap_same _ _ _ _ _ _ _ _ _ _ _ _ _ _ _ _ _ _ Pl.diag (Pl.steps16 17) _ (G5.out.step (by go_grown)) (G6.out.step (by go_grown)) (G1f.out.step (by go_grown)) (G2f.out.step (by go_grown))).mono ?_
  rintro e w7 ⟨rfl, hb7⟩
  have b7 : Below w6.heap.size w6 w7 := later (by go_grown) hb7
  have B7 : Below w.heap.size w w7 := later B6 b7
  have X2g := Lib.hid (X2f.out.step b7)
  have ⟨v0, v1, v2⟩ := X2g.out.open2
  clear q0 q1 q2 hb7
  go_wp2_with fail
  refine (heldColorMap_same _ _ _ _ _ _ _ _ _ _ _ _ (G3f.out.step b7) (G4f.out.step b7) (by omega) (by omega)).mono ?_
  rintro e w8 ⟨rfl, hb8⟩
  have B8 : Below w.heap.size w w8 := later B7 hb8
  go_wp2_with fail
  go_ret
  exact ⟨rfl, B8⟩
end Go.Proofs.Ytadghhajegpaiaa
