/- Contract: the program's DifferenceOf. -/
import Derived.Test.YtmjjepgnciibcaaDiff0
import Derived.Test.YtmjjepgnciibcaaIm2
import Derived.Test.YtmjjepgnciibcaaRegion
import Derived.Deep.Cut
namespace Go.Proofs.Ytmjjepgnciibcaa
open Go.RowKit
set_option linter.unusedVariables false
set_option linter.unusedSimpArgs false
theorem VB.open3 {w : World} {b : Nat} {v0 v1 v2 : Value} (h : VB w b [v0, v1, v2]) : b < w.heap.size ∧ w.cell? ⟨b, 0, none⟩ = some v0 ∧ w.cell? ⟨b, 1, none⟩ = some v1 ∧ w.cell? ⟨b, 2, none⟩ = some v2 ∧ w.frozen? ⟨b, 0, none⟩ = false ∧ w.frozen? ⟨b, 1, none⟩ = false ∧ w.frozen? ⟨b, 2, none⟩ = false :=
  ⟨h.lt, h.cell 0, h.cell 1, h.cell 2, h.frozen 0, h.frozen 1, h.frozen 2⟩
theorem or_bit {n p : Nat} (hn : n < 65536) (hp : p < 16) : bits .or .i64 (n : Int) (IntKind.i64.wrap (2 ^ p)) = ((n ||| 2 ^ p : Nat) : Int) := by
  have h1 : 2 ^ p ≤ 65536 := Nat.pow_le_pow_right (n := 2) (by decide) (by omega : p ≤ 16)
  have e0 : ((2 : Int) ^ p) = ((2 ^ p : Nat) : Int) := by simp
  have h0 : IntKind.i64.wrap ((2 : Int) ^ p) = ((2 ^ p : Nat) : Int) := by rw [e0]; generalize 2 ^ p = q at *; rw [IntKind.wrap_i64]; omega
  rw [h0, i64_or (by omega) (by omega)]
theorem or_bit64 {n p : Nat} (hn : n < 65536) (hp : p < 16) : bits .or .i64 (n : Int) (wrap64 (2 ^ p)) = ((n ||| 2 ^ p : Nat) : Int) := by
  have := or_bit hn hp
  rw [IntKind.wrap_i64] at this
  unfold wrap64
  exact this
theorem Pl.Holds.put {m : Nat → Nat} {G : Nat → Nat → Bool} (h : Pl.Holds m G) {q p : Nat} (hq : q < 16) (hp : p < 16) : Pl.Holds (fun y => if y = q then m q ||| 2 ^ p else m y) (fun y x => G y x || decide (y = q ∧ x = p)) := by
  intro y hy
  dsimp only
  obtain ⟨h1, h2⟩ := h y hy
  by_cases e : y = q
  · subst e
    have h3 : 2 ^ p < 65536 := Nat.lt_of_lt_of_le (Nat.pow_lt_pow_right (by decide) hp) (by decide : 2 ^ 16 ≤ 65536)
    rw [if_pos rfl]
    refine ⟨Nat.or_lt_two_pow (n := 16) h1 h3, fun x hx => ?_⟩
    rw [Nat.testBit_or, h2 x hx, Nat.testBit_two_pow]
    have e2 : decide (y = y ∧ x = p) = decide (p = x) := by simp [eq_comm]
    rw [e2]
  · rw [if_neg e]
    refine ⟨h1, fun x hx => ?_⟩
    rw [h2 x hx]
    simp [e]
attribute [local irreducible] gcells
set_option maxRecDepth 100000 in
set_option maxHeartbeats 4000000 in
theorem implDifference (W H W2 H2 : Int) (A B : Option Addr) (n m c d l1 h1 l2 h2 : Nat) (za zb : List Int) (w : World) (IA : Ints w l1 h1 (.slice A n c) za) (IB : Ints w l2 h2 (.slice B m d) zb) :
    Calls Try.prog 9 #[.agg #[.int .i64 W, .int .i64 H, .slice A n c], .agg #[.int .i64 W2, .int .i64 H2, .slice B m d]] w (NewReg (Pl.diffOf ⟨W, H, za⟩ ⟨W2, H2, zb⟩) w) := by
  have HA := Lib.hid IA
  have HB := Lib.hid IB
  clear IA IB
  go_enter Try.func9, Try.ntmps9
  go_upto_region 1 with fail
  have V1 := Lib.hid (((VB.new (w := w) (b := w.heap.size) (t := 30) (cs := [.int .i64 W, .int .i64 H, .slice A n c]) rfl).alloc (.cells #[.int .i64 W2, .int .i64 H2, .slice B m d] 30 (0, 0))).alloc (.cells #[.slice none 0 0] 28 (0, 0)))
  have V2 := Lib.hid ((VB.new (w := w.alloc (.cells #[.int .i64 W, .int .i64 H, .slice A n c] 30 (0, 0))) (b := w.heap.size + 1) (t := 30) (cs := [.int .i64 W2, .int .i64 H2, .slice B m d]) (by simp)).alloc (.cells #[.slice none 0 0] 28 (0, 0)))
  have VR := Lib.hid (VB.new (w := (w.alloc (.cells #[.int .i64 W, .int .i64 H, .slice A n c] 30 (0, 0))).alloc (.cells #[.int .i64 W2, .int .i64 H2, .slice B m d] 30 (0, 0))) (b := w.heap.size + 1 + 1) (t := 28) (cs := [.slice none 0 0]) (by simp))
  have BZ : Hid (Below w.heap.size w (((w.alloc (.cells #[.int .i64 W, .int .i64 H, .slice A n c] 30 (0, 0))).alloc (.cells #[.int .i64 W2, .int .i64 H2, .slice B m d] 30 (0, 0))).alloc (.cells #[.slice none 0 0] 28 (0, 0)))) := Lib.hid (by go_grown)
  generalize ((w.alloc (.cells #[.int .i64 W, .int .i64 H, .slice A n c] 30 (0, 0))).alloc (.cells #[.int .i64 W2, .int .i64 H2, .slice B m d] 30 (0, 0))).alloc (.cells #[.slice none 0 0] 28 (0, 0)) = wv at *
  obtain ⟨ll1, c10, c11, c12, _⟩ := V1.out.open3
  obtain ⟨ll2, c20, c21, c22, _⟩ := V2.out.open3
  obtain ⟨ll3, c3, f3⟩ := VR.out.open1
  cases hra : Pl.imageOk ⟨W, H, za⟩
  · go_wp2_with (go_at_call 32; ((with_reducible refine (implImageOk W H A n c l1 h1 za _ (HA.out.step BZ.out)).mono ?_)); rw [hra]; rintro e w9 ⟨rfl, B9⟩; have VR9 := Lib.hid (VR.out.step B9); have BB9 := Lib.hid (later BZ.out B9); obtain ⟨l9, c9, f9⟩ := VR9.out.open1)
    have e : Pl.diffOf ⟨W, H, za⟩ ⟨W2, H2, zb⟩ = [] := by simp [Pl.diffOf, hra]
    rw [e]
    exact bodyPost_ret (v := .agg #[.slice none 0 0]) (by simp [results, Try.results9, go_sem, c9]) rfl ⟨none, 0, rfl, Recs.nil _ _ _ (Nat.le_refl _), BB9.out.setCell (by show w.heap.size ≤ w.heap.size + 1 + 1; omega) _⟩
  · cases hrb : Pl.imageOk ⟨W2, H2, zb⟩
    · go_wp2_with (first
        | (go_at_call 32; ((with_reducible refine (implImageOk W H A n c l1 h1 za _ (HA.out.step BZ.out)).mono ?_)); rw [hra]; rintro e w9 ⟨rfl, B9⟩; have V29 := Lib.hid (V2.out.step B9); have VR9 := Lib.hid (VR.out.step B9); have BB9 := Lib.hid (later BZ.out B9); obtain ⟨l9, c90, c91, c92, _⟩ := V29.out.open3)
        | (go_at_call 32; ((with_reducible refine (implImageOk W2 H2 B m d l2 h2 zb _ (HB.out.step BB9.out)).mono ?_)); rw [hrb]; rintro e w8 ⟨rfl, B8⟩; have VR8 := Lib.hid (VR9.out.step B8); have BB8 := Lib.hid (later BB9.out B8); obtain ⟨l8, c8, f8⟩ := VR8.out.open1))
      have e : Pl.diffOf ⟨W, H, za⟩ ⟨W2, H2, zb⟩ = [] := by simp [Pl.diffOf, hrb]
      rw [e]
      exact bodyPost_ret (v := .agg #[.slice none 0 0]) (by simp [results, Try.results9, go_sem, c8]) rfl ⟨none, 0, rfl, Recs.nil _ _ _ (Nat.le_refl _), BB8.out.setCell (by show w.heap.size ≤ w.heap.size + 1 + 1; omega) _⟩
    · by_cases hwh : W = W2 ∧ H = H2
      · obtain ⟨rfl, rfl⟩ := hwh
        obtain ⟨hW, hH, hlenA, _⟩ := Pl.imageOk_t hra
        obtain ⟨_, _, hlenB, _⟩ := Pl.imageOk_t hrb
        simp only at hW hH hlenA hlenB
        have hdf : Hid (Pl.diffOf ⟨W, H, za⟩ ⟨W, H, zb⟩ = Pl.canon (Pl.diffG W.toNat H.toNat za zb)) := Lib.hid (by simp [Pl.diffOf, hra, hrb])
        obtain ⟨X, rfl⟩ := Int.eq_ofNat_of_zero_le (show 0 ≤ W by omega)
        obtain ⟨Y, rfl⟩ := Int.eq_ofNat_of_zero_le (show 0 ≤ H by omega)
        simp only [Int.toNat_natCast] at hdf
        have nA : n = X * Y := by have h1 := HA.out.len_eq; have h2 : za.length = X * Y := by exact_mod_cast hlenA
                                  omega
        have nB : m = X * Y := by have h1 := HB.out.len_eq; have h2 : zb.length = X * Y := by exact_mod_cast hlenB
                                  omega
        have hn256 : n ≤ 256 := by rw [nA]; exact Nat.mul_le_mul (show X ≤ 16 by omega) (show Y ≤ 16 by omega)
        obtain rfl : n = m := by omega
        have NA := Lib.hid nA
        clear nA nB hlenA hlenB
        have X1 : 1 ≤ X := by omega
        have X2 : X ≤ 16 := by omega
        have Y2 : Y ≤ 16 := by omega
        go_wp2_with (first
        | (go_at_call 32; ((with_reducible refine (implImageOk (X : Int) (Y : Int) A n c l1 h1 za _ (HA.out.step BZ.out)).mono ?_)); rw [hra]; rintro e w9 ⟨rfl, B9⟩; have V19 := Lib.hid (V1.out.step B9); have V29 := Lib.hid (V2.out.step B9); have VR9 := Lib.hid (VR.out.step B9); have BB9 := Lib.hid (later BZ.out B9); obtain ⟨l9, c90, c91, c92, _⟩ := V29.out.open3; clear B9)
        | (go_at_call 32; ((with_reducible refine (implImageOk (X : Int) (Y : Int) B _ d l2 h2 zb _ (HB.out.step BB9.out)).mono ?_)); rw [hrb]; rintro e w8 ⟨rfl, B8⟩; have V18 := Lib.hid (V19.out.step B8); have V28 := Lib.hid (V29.out.step B8); have VR8 := Lib.hid (VR9.out.step B8); have BB8 := Lib.hid (later BB9.out B8); obtain ⟨l8, c80, c81, c82, _⟩ := V18.out.open3; obtain ⟨k8, d80, d81, d82, _⟩ := V28.out.open3; obtain ⟨r8, e80, f80⟩ := VR8.out.open1; clear B8)
        | (refine wpList_gstore (fun _ => 0) _ _ rfl rfl rfl (by rw [gcells_zero]; rfl) (by rw [← gcells_zero]; exact GB.new rfl) ?_; intro w7 G7 O7 S7; have V17 := Lib.hid ((V18.out.alloc _).out O7 (by have := V18.out.lt; omega)); have V27 := Lib.hid ((V28.out.alloc _).out O7 (by have := V28.out.lt; omega)); have VR7 := Lib.hid ((VR8.out.alloc _).out O7 (by have := VR8.out.lt; omega)); have BB7 := Lib.hid ((BB8.out.alloc BB8.out.size _).trans (O7.below (by have := BB8.out.size; omega) (by have := BB8.out.size; simp; omega))); have G7' := Lib.hid G7; obtain ⟨l7, c70, c71, c72, _⟩ := V17.out.open3; have sz8 := VR8.out.lt; clear G7 O7 S7))
        go_loopw [35] (fun sk wr => ∃ (k : Nat) (mm : Nat → Nat), k ≤ n ∧ sk = .int .i64 k ∧ Hid (Pl.Holds mm (Pl.diffK X Y za zb k)) ∧ Hid (GB wr w8.heap.size mm) ∧ Hid (VB wr w.heap.size [.int .i64 X, .int .i64 Y, .slice A n c]) ∧ Hid (VB wr (w.heap.size + 1) [.int .i64 X, .int .i64 Y, .slice B n d]) ∧ Hid (VB wr (w.heap.size + 1 + 1) [.slice none 0 0]) ∧ Hid (Below w.heap.size w wr)) (fun sk _ => n - (intOf sk).toNat)
        case atStart => exact ⟨0, fun _ => 0, by omega, rfl, Lib.hid (by rw [Pl.diffK_zero]; exact Pl.holds_zero), G7', V17, V27, VR7, BB7⟩
        case round =>
          obtain ⟨wo, rfl⟩ : ∃ wo : World, wo = wr := ⟨_, rfl⟩
          obtain ⟨k, mm, hk, rfl, hM, hG, hV1, hV2, hVR, hB⟩ := hrel
          have kp0 : (0 : Int) ≤ (k : Int) := Int.natCast_nonneg _
          by_cases hlt : k < n
          · have kp1 : (k : Int) < n := by omega
            obtain ⟨g1, z1, rfl, _, hg1, e1, cc1, _⟩ := (HA.out.step hB.out).at_ hlt
            obtain ⟨g2, z2, rfl, _, hg2, e2, cc2, _⟩ := (HB.out.step hB.out).at_ hlt
            have E1 := Lib.hid e1
            have E2 := Lib.hid e2
            clear e1 e2
            obtain ⟨lv1, v10, v11, v12, _⟩ := hV1.out.open3
            obtain ⟨lv2, v20, v21, v22, _⟩ := hV2.out.open3
            by_cases hz : z1 = z2
            · have hb : (z1 != z2) = false := by simp [hz]
              go_wp2_with fail
              go_roundw
              case rel => exact ⟨k + 1, mm, by omega, by go_num, Lib.hid (hM.out.congr fun y hy x hx => by
                rw [Pl.diffK_step X1 X2 Y2 (by rw [← NA.out]; exact hlt) y x hy hx]
                simp [List.getD_eq_getElem?_getD, E1.out, E2.out, hz]), hG, hV1, hV2, hVR, hB⟩
              case measure => simp [intOf]; omega
            · have hb : (z1 != z2) = true := by simp [hz]
              have hqY : k / X < Y := by rw [Nat.div_lt_iff_lt_mul (by omega), Nat.mul_comm, ← NA.out]; exact hlt
              have hpX : k % X < X := Nat.mod_lt _ (by omega)
              obtain ⟨q, hq⟩ : ∃ q, k / X = q := ⟨_, rfl⟩
              obtain ⟨p, hp⟩ : ∃ p, k % X = p := ⟨_, rfl⟩
              have hqi : (k : Int) / (X : Int) = (q : Int) := by rw [← hq]; exact (Int.natCast_ediv k X).symm
              have hpi : (k : Int) % (X : Int) = (p : Int) := by rw [← hp]; exact (Int.natCast_emod k X).symm
              rw [hq] at hqY
              rw [hp] at hpX
              have HQ := Lib.hid hq
              have HP := Lib.hid hp
              clear hq hp
              have q16 : q < 16 := by omega
              have p16 : p < 16 := by omega
              have cq := hG.out.cell q16
              have fq := hG.out.frozen q
              have hop := or_bit ((hM.out q q16).1) p16
              have lgg := hG.out.lt
              have X0 : (0 : Int) < (X : Int) := by omega
              have Xne : ((X : Int) == 0) = false := by simp; omega
              have q0 : (0 : Int) ≤ (q : Int) := Int.natCast_nonneg _
              have q1 : (q : Int) < 16 := by omega
              have p0 : (0 : Int) ≤ (p : Int) := Int.natCast_nonneg _
              have p1 : (p : Int) < 64 := by omega
              go_wp2_with fail
              go_region
              go_wp2_with fail
              go_roundw
              case rel =>
                refine ⟨k + 1, (fun y => if y = q then mm q ||| 2 ^ p else mm y), by omega, by go_num, Lib.hid ((hM.out.put q16 p16).congr fun y hy x hx => ?_), Lib.hid (GB.drew ?_), Lib.hid (VB.drew (hV1.out.far _ _ (by show w.heap.size ≠ w8.heap.size; omega))), Lib.hid (VB.drew (hV2.out.far _ _ (by show w.heap.size + 1 ≠ w8.heap.size; omega))), Lib.hid (VB.drew (hVR.out.far _ _ (by show w.heap.size + 1 + 1 ≠ w8.heap.size; omega))), Lib.hid (Below.drew (hB.out.setCell (by show w.heap.size ≤ w8.heap.size; omega) _))⟩
                · rw [Pl.diffK_step X1 X2 Y2 (by rw [← NA.out]; exact hlt) y x hy hx, HQ.out, HP.out]
                  simp [List.getD_eq_getElem?_getD, E1.out, E2.out, hz]
                · rw [or_bit64 (hM.out q q16).1 p16]
                  exact hG.out.set q16 _
              case measure => simp [intOf]; omega
          · obtain rfl : k = n := by omega
            have hM2 : Hid (Pl.Holds mm (Pl.diffG X Y za zb)) := Lib.hid (hM.out.congr fun y hy x hx => by rw [NA.out]; exact Pl.diffK_all za zb X1 y hy x hx)
            obtain ⟨lr, cr, fr⟩ := hVR.out.open1
            go_wp2_with (first
              | (refine wpList_gload _ rfl rfl rfl hG.out ?_)
              | (go_at_call 33; ((with_reducible refine (region_any mm (Pl.diffG X Y za zb) hM2.out _).mono ?_)); rintro e w4 ⟨A4, k4, rfl, O4, B4⟩; have I4 := Lib.hid O4; have VR4 := Lib.hid (hVR.out.step B4); have BB4 := Lib.hid (later hB.out B4); obtain ⟨l4, r4, f4⟩ := VR4.out.open1; clear O4 B4))
            rw [hdf.out]
            refine bodyPost_ret (v := .agg #[.slice A4 (Pl.canon (Pl.diffG X Y za zb)).length k4]) (by simp [results, Try.results9, go_sem, r4]) rfl ⟨A4, k4, rfl, ?_, BB4.out.setCell (by show w.heap.size ≤ w.heap.size + 1 + 1; omega) _⟩
            have h1 := Own.far (p := ⟨w.heap.size + 1 + 1, 0, none⟩) I4.out (by left; exact lr) (.slice A4 (Pl.canon (Pl.diffG X Y za zb)).length k4)
            exact Own.mono h1 hB.out.size (by simp [World.setCell]) (Nat.le_refl _)
      · have E : Hid (Pl.diffOf ⟨W, H, za⟩ ⟨W2, H2, zb⟩ = []) := Lib.hid (by simp [Pl.diffOf]; omega)
        by_cases hw : W = W2
        · have hh : H ≠ H2 := fun h => hwh ⟨hw, h⟩
          subst hw
          have b2 : (H != H2) = true := by simpa using hh
          go_wp2_with (first
            | (go_at_call 32; ((with_reducible refine (implImageOk W H A n c l1 h1 za _ (HA.out.step BZ.out)).mono ?_)); rw [hra]; rintro e w9 ⟨rfl, B9⟩; have V19 := Lib.hid (V1.out.step B9); have V29 := Lib.hid (V2.out.step B9); have VR9 := Lib.hid (VR.out.step B9); have BB9 := Lib.hid (later BZ.out B9); obtain ⟨l9, c90, c91, c92, _⟩ := V29.out.open3; clear B9)
            | (go_at_call 32; ((with_reducible refine (implImageOk W H2 B m d l2 h2 zb _ (HB.out.step BB9.out)).mono ?_)); rw [hrb]; rintro e w8 ⟨rfl, B8⟩; have V18 := Lib.hid (V19.out.step B8); have V28 := Lib.hid (V29.out.step B8); have VR8 := Lib.hid (VR9.out.step B8); have BB8 := Lib.hid (later BB9.out B8); obtain ⟨l8, c80, c81, c82, _⟩ := V18.out.open3; obtain ⟨k8, d80, d81, d82, _⟩ := V28.out.open3; obtain ⟨r8, e80, f80⟩ := VR8.out.open1; clear B8))
          rw [E.out]
          exact bodyPost_ret (v := .agg #[.slice none 0 0]) (by simp [results, Try.results9, go_sem, e80]) rfl ⟨none, 0, rfl, Recs.nil _ _ _ (Nat.le_refl _), BB8.out.setCell (by show w.heap.size ≤ w.heap.size + 1 + 1; omega) _⟩
        · have b1 : (W != W2) = true := by simpa using hw
          go_wp2_with (first
            | (go_at_call 32; ((with_reducible refine (implImageOk W H A n c l1 h1 za _ (HA.out.step BZ.out)).mono ?_)); rw [hra]; rintro e w9 ⟨rfl, B9⟩; have V19 := Lib.hid (V1.out.step B9); have V29 := Lib.hid (V2.out.step B9); have VR9 := Lib.hid (VR.out.step B9); have BB9 := Lib.hid (later BZ.out B9); obtain ⟨l9, c90, c91, c92, _⟩ := V29.out.open3; clear B9)
            | (go_at_call 32; ((with_reducible refine (implImageOk W2 H2 B m d l2 h2 zb _ (HB.out.step BB9.out)).mono ?_)); rw [hrb]; rintro e w8 ⟨rfl, B8⟩; have V18 := Lib.hid (V19.out.step B8); have V28 := Lib.hid (V29.out.step B8); have VR8 := Lib.hid (VR9.out.step B8); have BB8 := Lib.hid (later BB9.out B8); obtain ⟨l8, c80, c81, c82, _⟩ := V18.out.open3; obtain ⟨k8, d80, d81, d82, _⟩ := V28.out.open3; obtain ⟨r8, e80, f80⟩ := VR8.out.open1; clear B8))
          rw [E.out]
          exact bodyPost_ret (v := .agg #[.slice none 0 0]) (by simp [results, Try.results9, go_sem, e80]) rfl ⟨none, 0, rfl, Recs.nil _ _ _ (Nat.le_refl _), BB8.out.setCell (by show w.heap.size ≤ w.heap.size + 1 + 1; omega) _⟩
end Go.Proofs.Ytmjjepgnciibcaa
