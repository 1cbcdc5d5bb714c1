/- Contract: the reference's DifferenceOf. -/
import Derived.Test.YtmjjepgnciibcaaDiff1
import Derived.Test.YtmjjepgnciibcaaSGrid
import Derived.Test.YtmjjepgnciibcaaSCanon
import Derived.Deep.Cut
namespace Go.Proofs.Ytmjjepgnciibcaa
open Go.RowKit
set_option linter.unusedVariables false
set_option linter.unusedSimpArgs false
theorem diff_row (X Y : Nat) (za zb : List Int) (y j i : Nat) : (if j < y + 1 then Pl.diffG X Y za zb j i else false) = (if j < y ∨ (j = y ∧ i < X) then Pl.diffG X Y za zb j i else false) := by
  by_cases h1 : j < y
  · rw [if_pos (by omega), if_pos (.inl h1)]
  · by_cases h2 : j = y
    · by_cases h3 : i < X
      · rw [if_pos (by omega), if_pos (.inr ⟨h2, h3⟩)]
      · rw [if_pos (by omega), if_neg (by omega)]
        simp [Pl.diffG, h3]
    · rw [if_neg (by omega), if_neg (by omega)]
theorem diff_put (X Y : Nat) (za zb : List Int) (y x j i : Nat) : (if j < y ∨ (j = y ∧ i < x + 1) then Pl.diffG X Y za zb j i else false) = (if j = y ∧ i = x then Pl.diffG X Y za zb y x else (if j < y ∨ (j = y ∧ i < x) then Pl.diffG X Y za zb j i else false)) := by
  by_cases h : j = y ∧ i = x
  · obtain ⟨rfl, rfl⟩ := h
    rw [if_pos (by omega), if_pos ⟨rfl, rfl⟩]
  · rw [if_neg h]
    by_cases h2 : j < y ∨ (j = y ∧ i < x)
    · rw [if_pos h2, if_pos (by omega)]
    · rw [if_neg h2, if_neg (by omega)]
theorem diff_end (X Y : Nat) (za zb : List Int) (j i : Nat) : (if j < Y then Pl.diffG X Y za zb j i else false) = Pl.diffG X Y za zb j i := by
  by_cases h : j < Y
  · rw [if_pos h]
  · rw [if_neg h]; simp [Pl.diffG, h]
set_option maxRecDepth 100000 in
set_option maxHeartbeats 4000000 in
theorem specDifference (W H W2 H2 : Int) (A B : Option Addr) (n m c d l1 h1 l2 h2 : Nat) (za zb : List Int) (w : World) (IA : Ints w l1 h1 (.slice A n c) za) (IB : Ints w l2 h2 (.slice B m d) zb) :
    Calls Try.prog 7 #[.agg #[.int .i64 W, .int .i64 H, .slice A n c], .agg #[.int .i64 W2, .int .i64 H2, .slice B m d]] w (NewReg (Pl.diffOf ⟨W, H, za⟩ ⟨W2, H2, zb⟩) w) := by
  have HA := Lib.hid IA
  have HB := Lib.hid IB
  clear IA IB
  go_enter Try.func7, Try.ntmps7
  go_upto_region 1 with fail
  have V1 := Lib.hid (((VB.new (w := w) (b := w.heap.size) (t := 30) (cs := [.int .i64 W, .int .i64 H, .slice A n c]) rfl).alloc (.cells #[.int .i64 W2, .int .i64 H2, .slice B m d] 30 (0, 0))).alloc (.cells #[.slice none 0 0] 28 (0, 0)))
  have V2 := Lib.hid ((VB.new (w := w.alloc (.cells #[.int .i64 W, .int .i64 H, .slice A n c] 30 (0, 0))) (b := w.heap.size + 1) (t := 30) (cs := [.int .i64 W2, .int .i64 H2, .slice B m d]) (by simp)).alloc (.cells #[.slice none 0 0] 28 (0, 0)))
  have VR := Lib.hid (VB.new (w := (w.alloc (.cells #[.int .i64 W, .int .i64 H, .slice A n c] 30 (0, 0))).alloc (.cells #[.int .i64 W2, .int .i64 H2, .slice B m d] 30 (0, 0))) (b := w.heap.size + 1 + 1) (t := 28) (cs := [.slice none 0 0]) (by simp))
  have BZ : Hid (Below w.heap.size w (((w.alloc (.cells #[.int .i64 W, .int .i64 H, .slice A n c] 30 (0, 0))).alloc (.cells #[.int .i64 W2, .int .i64 H2, .slice B m d] 30 (0, 0))).alloc (.cells #[.slice none 0 0] 28 (0, 0)))) := Lib.hid (by go_grown)
  generalize ((w.alloc (.cells #[.int .i64 W, .int .i64 H, .slice A n c] 30 (0, 0))).alloc (.cells #[.int .i64 W2, .int .i64 H2, .slice B m d] 30 (0, 0))).alloc (.cells #[.slice none 0 0] 28 (0, 0)) = wv at *
  obtain ⟨ll1, c10, c11, c12, _⟩ := V1.out.open3
  obtain ⟨ll2, c20, c21, c22, _⟩ := V2.out.open3
  obtain ⟨ll3, c3, f3⟩ := VR.out.open1
  cases hra : Pl.imageOk ⟨W, H, za⟩
  · go_wp2_with (go_at_call 29; ((with_reducible refine (specImageOk W H A n c l1 h1 za _ (HA.out.step BZ.out)).mono ?_)); rw [hra]; rintro e w9 ⟨rfl, B9⟩; have VR9 := Lib.hid (VR.out.step B9); have BB9 := Lib.hid (later BZ.out B9); obtain ⟨l9, c9, f9⟩ := VR9.out.open1)
    have e : Pl.diffOf ⟨W, H, za⟩ ⟨W2, H2, zb⟩ = [] := by simp [Pl.diffOf, hra]
    rw [e]
    exact bodyPost_ret (v := .agg #[.slice none 0 0]) (by simp [results, Try.results7, go_sem, c9]) rfl ⟨none, 0, rfl, Recs.nil _ _ _ (Nat.le_refl _), BB9.out.setCell (by show w.heap.size ≤ w.heap.size + 1 + 1; omega) _⟩
  · cases hrb : Pl.imageOk ⟨W2, H2, zb⟩
    · go_wp2_with (first
        | (go_at_call 29; ((with_reducible refine (specImageOk W H A n c l1 h1 za _ (HA.out.step BZ.out)).mono ?_)); rw [hra]; rintro e w9 ⟨rfl, B9⟩; have V29 := Lib.hid (V2.out.step B9); have VR9 := Lib.hid (VR.out.step B9); have BB9 := Lib.hid (later BZ.out B9); obtain ⟨l9, c90, c91, c92, _⟩ := V29.out.open3)
        | (go_at_call 29; ((with_reducible refine (specImageOk W2 H2 B m d l2 h2 zb _ (HB.out.step BB9.out)).mono ?_)); rw [hrb]; rintro e w8 ⟨rfl, B8⟩; have VR8 := Lib.hid (VR9.out.step B8); have BB8 := Lib.hid (later BB9.out B8); obtain ⟨l8, c8, f8⟩ := VR8.out.open1))
      have e : Pl.diffOf ⟨W, H, za⟩ ⟨W2, H2, zb⟩ = [] := by simp [Pl.diffOf, hrb]
      rw [e]
      exact bodyPost_ret (v := .agg #[.slice none 0 0]) (by simp [results, Try.results7, go_sem, c8]) rfl ⟨none, 0, rfl, Recs.nil _ _ _ (Nat.le_refl _), BB8.out.setCell (by show w.heap.size ≤ w.heap.size + 1 + 1; omega) _⟩
    · by_cases hwh : W = W2 ∧ H = H2
      · obtain ⟨rfl, rfl⟩ := hwh
        obtain ⟨hW, hH, hlenA, _⟩ := Pl.imageOk_t hra
        obtain ⟨_, _, hlenB, _⟩ := Pl.imageOk_t hrb
        simp only at hW hH hlenA hlenB
        have hdf : Hid (Pl.diffOf ⟨W, H, za⟩ ⟨W, H, zb⟩ = Pl.canon (Pl.diffG W.toNat H.toNat za zb)) := Lib.hid (by simp [Pl.diffOf, hra, hrb])
        obtain ⟨X, rfl⟩ := Int.eq_ofNat_of_zero_le (show 0 ≤ W by omega)
        obtain ⟨Y, rfl⟩ := Int.eq_ofNat_of_zero_le (show 0 ≤ H by omega)
        simp only [Int.toNat_natCast] at hdf
        have nA : n = X * Y := by have h1 := HA.out.len_eq; have h2 : za.length = X * Y := by exact_mod_cast hlenA
                                  omega
        have nB : m = X * Y := by have h1 := HB.out.len_eq; have h2 : zb.length = X * Y := by exact_mod_cast hlenB
                                  omega
        have hn256 : n ≤ 256 := by rw [nA]; exact Nat.mul_le_mul (show X ≤ 16 by omega) (show Y ≤ 16 by omega)
        obtain rfl : n = m := by omega
        have NA := Lib.hid nA
        clear nA nB hlenA hlenB
        have X1 : 1 ≤ X := by omega
        have X2 : X ≤ 16 := by omega
        have Y2 : Y ≤ 16 := by omega
        obtain ⟨i0, hi0, hz0, hz1, hz2⟩ := info_parts Try.infoBool
        go_wp2_with (first
        | (go_at_call 29; ((with_reducible refine (specImageOk (X : Int) (Y : Int) A n c l1 h1 za _ (HA.out.step BZ.out)).mono ?_)); rw [hra]; rintro e w9 ⟨rfl, B9⟩; have V19 := Lib.hid (V1.out.step B9); have V29 := Lib.hid (V2.out.step B9); have VR9 := Lib.hid (VR.out.step B9); have BB9 := Lib.hid (later BZ.out B9); obtain ⟨l9, c90, c91, c92, _⟩ := V29.out.open3; clear B9)
        | (go_at_call 29; ((with_reducible refine (specImageOk (X : Int) (Y : Int) B _ d l2 h2 zb _ (HB.out.step BB9.out)).mono ?_)); rw [hrb]; rintro e w8 ⟨rfl, B8⟩; have V18 := Lib.hid (V19.out.step B8); have V28 := Lib.hid (V29.out.step B8); have VR8 := Lib.hid (VR9.out.step B8); have BB8 := Lib.hid (later BB9.out B8); obtain ⟨l8, c80, c81, c82, _⟩ := V18.out.open3; obtain ⟨k8, d80, d81, d82, _⟩ := V28.out.open3; obtain ⟨r8, e80, f80⟩ := VR8.out.open1; clear B8)
        | (at_make; refine wpList_make_full _ rfl _ _ 56 rfl w8.heap.size 4 i0 (.bool false) 1 Try.underlying56 hi0 hz0 hz1 _ _ _ _ 256 rfl rfl rfl rfl (by rw [hz2]; omega) (by unfold maxLen; omega) (Nat.le_refl _) ?_))
        intro w7 hown hgrow
        have O7 : Hid (Bls w7 w8.heap.size w7.heap.size (.slice (some ⟨w8.heap.size, 0, none⟩) 256 256) (Pl.flat fun _ _ => false)) := by
          have := Own.of_row hown
          rw [toList_madeCells_one] at this
          show Own _ _ _ _ _ _ _ _
          rw [Pl.flat_length, Pl.flat_none, List.map_replicate]
          exact this
        have B7 : Below w8.heap.size w8 w7 := (Below.refl _ _).grown hgrow (Nat.le_refl _) (by simp)
        have V17 := Lib.hid (V18.out.step B7)
        have V27 := Lib.hid (V28.out.step B7)
        have VR7 := Lib.hid (VR8.out.step B7)
        have BB7 := Lib.hid (later BB8.out B7)
        have sz8 := VR8.out.lt
        have hs7 : w8.heap.size < w7.heap.size := by obtain ⟨g, z, e, _, _, hg, _⟩ := O7.out.at_ (k := 0) (by omega); injection e with e; injection e with e; omega
        clear hown hgrow B7 hi0 hz0 hz1 hz2
        obtain ⟨l7, c70, c71, c72, _⟩ := V17.out.open3
        go_wp2_with fail
        clear l7 c70 c71 c72
        go_loopw [6] (fun sy wr => ∃ y : Nat, y ≤ Y ∧ sy = .int .i64 y ∧ Hid (Bls wr w8.heap.size w7.heap.size (.slice (some ⟨w8.heap.size, 0, none⟩) 256 256) (Pl.flat (fun j i => if j < y then Pl.diffG X Y za zb j i else false))) ∧ Hid (VB wr w.heap.size [.int .i64 X, .int .i64 Y, .slice A n c]) ∧ Hid (VB wr (w.heap.size + 1) [.int .i64 X, .int .i64 Y, .slice B n d]) ∧ Hid (VB wr (w.heap.size + 1 + 1) [.slice none 0 0]) ∧ Hid (Below w.heap.size w wr)) (fun sy _ => Y - (intOf sy).toNat)
        case atStart => exact ⟨0, by omega, rfl, Lib.hid (by rw [Pl.flat_congr (K := fun _ _ => false) (fun j _ i _ => if_neg (by omega))]; exact O7.out), V17, V27, VR7, BB7⟩
        case round =>
          obtain ⟨wy, rfl⟩ : ∃ wy : World, wy = wr := ⟨_, rfl⟩
          obtain ⟨y, hy, rfl, hSy, hV1y, hV2y, hVRy, hBy⟩ := hrel
          have yp0 : (0 : Int) ≤ (y : Int) := Int.natCast_nonneg _
          obtain ⟨lv1, v10, v11, v12, _⟩ := hV1y.out.open3
          by_cases hylt : y < Y
          · have yp1 : (y : Int) < Y := by omega
            have yp2 : (y : Int) < 16 := by omega
            go_wp2_with fail
            clear lv1 v10 v11 v12
            go_loopw [7] (fun sx wr => ∃ x : Nat, x ≤ X ∧ sx = .int .i64 x ∧ Hid (Bls wr w8.heap.size w7.heap.size (.slice (some ⟨w8.heap.size, 0, none⟩) 256 256) (Pl.flat (fun j i => if j < y ∨ (j = y ∧ i < x) then Pl.diffG X Y za zb j i else false))) ∧ Hid (VB wr w.heap.size [.int .i64 X, .int .i64 Y, .slice A n c]) ∧ Hid (VB wr (w.heap.size + 1) [.int .i64 X, .int .i64 Y, .slice B n d]) ∧ Hid (VB wr (w.heap.size + 1 + 1) [.slice none 0 0]) ∧ Hid (Below w.heap.size w wr)) (fun sx _ => X - (intOf sx).toNat)
            case atStart => exact ⟨0, by omega, rfl, Lib.hid (by rw [Pl.flat_congr (K := fun j i => if j < y then Pl.diffG X Y za zb j i else false) (fun j _ i _ => by simp)]; exact hSy.out), hV1y, hV2y, hVRy, hBy⟩
            case round =>
              obtain ⟨wo, rfl⟩ : ∃ wo : World, wo = wr := ⟨_, rfl⟩
              obtain ⟨x, hx, rfl, hS, hV1, hV2, hVR, hB⟩ := hrel
              have xp0 : (0 : Int) ≤ (x : Int) := Int.natCast_nonneg _
              by_cases hxlt : x < X
              · have xp1 : (x : Int) < X := by omega
                have xp2 : (x : Int) < 16 := by omega
                have hpl : y * X + x < n := by
                  rw [NA.out]
                  have h2 : (y + 1) * X ≤ Y * X := Nat.mul_le_mul_right X (by omega)
                  rw [Nat.succ_mul] at h2
                  rw [Nat.mul_comm X Y]
                  omega
                obtain ⟨j, hj⟩ : ∃ j, y * X + x = j := ⟨_, rfl⟩
                have hji : (y : Int) * (X : Int) + (x : Int) = (j : Int) := by rw [← hj]; simp
                obtain ⟨yx, hyx⟩ : ∃ yx, y * X = yx := ⟨_, rfl⟩
                have hyxi : (y : Int) * (X : Int) = (yx : Int) := by rw [← hyx]; simp
                rw [hj] at hpl
                obtain ⟨g1, z1, rfl, _, hg1, e1, cc1, _⟩ := (HA.out.step hB.out).at_ hpl
                obtain ⟨g2, z2, rfl, _, hg2, e2, cc2, _⟩ := (HB.out.step hB.out).at_ hpl
                have hval : Hid (Pl.diffG X Y za zb y x = (z1 != z2)) := Lib.hid (by
                  unfold Pl.diffG
                  rw [hj]
                  rw [List.getD_eq_getElem?_getD, List.getD_eq_getElem?_getD, e1, e2]
                  simp only [Option.getD_some, hxlt, hylt, decide_true, Bool.true_and]
                  rw [Bool.eq_iff_iff]
                  simp)
                clear e1 e2
                rw [hyxi] at hji
                have yxb : (yx : Int) + x < 256 := by omega
                have HJ := Lib.hid hj
                have HYX := Lib.hid hyx
                clear hj hyx
                obtain ⟨lv1, v10, v11, v12, _⟩ := hV1.out.open3
                obtain ⟨lv2, v20, v21, v22, _⟩ := hV2.out.open3
                obtain ⟨g, eg, lg, hg, lgs, cg, fg⟩ := hS.out.flatAt (y := y) (x := x) (by omega) (by omega)
                injection eg with eg
                injection eg with eg
                subst eg
                clear cg
                obtain ⟨cgv, cg⟩ : ∃ v, wo.cell? ⟨w8.heap.size, y * 16 + x, none⟩ = some v := by obtain ⟨g, e, _, _, _, h, _⟩ := hS.out.flatAt (y := y) (x := x) (by omega) (by omega); injection e with e; injection e with e; subst e; exact ⟨_, h⟩
                have u1 : IntKind.i64.wrap ((y : Int) * 16) = (y : Int) * 16 := IntWalk.i64_in _ ⟨by omega, by omega⟩
                have u2 : IntKind.i64.wrap ((y : Int) * 16 + x) = (y : Int) * 16 + x := IntWalk.i64_in _ ⟨by omega, by omega⟩
                have u3 : (0 : Int) ≤ (y : Int) * 16 + x := by omega
                have u4 : (y : Int) * 16 + x < 256 := by omega
                have u5 : ((y : Int) * 16 + x).toNat = y * 16 + x := by omega
                have u6 : IntKind.i64.wrap (yx : Int) = (yx : Int) := IntWalk.i64_in _ ⟨by omega, by omega⟩
                have u7 : IntKind.i64.wrap (j : Int) = (j : Int) := IntWalk.i64_in _ ⟨by omega, by omega⟩
                have u8 : (j : Int) < n := by omega
                go_wp2_with fail
                go_region
                go_wp2_with fail
                go_roundw
                case rel =>
                  refine ⟨x + 1, by omega, by go_num, Lib.hid ?_, Lib.hid (VB.drew (hV1.out.far _ _ (by show w.heap.size ≠ w8.heap.size; omega))), Lib.hid (VB.drew (hV2.out.far _ _ (by show w.heap.size + 1 ≠ w8.heap.size; omega))), Lib.hid (VB.drew (hVR.out.far _ _ (by show w.heap.size + 1 + 1 ≠ w8.heap.size; omega))), Lib.hid (Below.drew (hB.out.setCell (by show w.heap.size ≤ w8.heap.size; omega) _))⟩
                  have h1 := hS.out.stored (y * 16 + x) (z1 != z2)
                  rw [Pl.flat_set _ (by omega) (by omega)] at h1
                  rw [Pl.flat_congr (K := fun j i => if j = y ∧ i = x then (z1 != z2) else (if j < y ∨ (j = y ∧ i < x) then Pl.diffG X Y za zb j i else false)) (fun j _ i _ => by rw [diff_put, hval.out])]
                  exact Bls.drew h1
                case measure => simp [intOf]; omega
              · obtain rfl : x = X := by omega
                obtain ⟨lv1, v10, v11, v12, _⟩ := hV1.out.open3
                go_wp2_with fail
                go_roundw
                case rel => exact ⟨y + 1, by omega, by go_num, Lib.hid (by rw [Pl.flat_congr (K := fun j i => if j < y ∨ (j = y ∧ i < x) then Pl.diffG x Y za zb j i else false) (fun j _ i _ => diff_row x Y za zb y j i)]; exact hS.out), hV1, hV2, hVR, hB⟩
                case measure => simp [intOf]; omega
          · obtain rfl : y = Y := by omega
            have hfin : Hid (Bls wy w8.heap.size w7.heap.size (.slice (some ⟨w8.heap.size, 0, none⟩) 256 256) (Pl.flat (Pl.diffG X y za zb))) := Lib.hid (by rw [← Pl.flat_congr (fun j _ i _ => diff_end X y za zb j i)]; exact hSy.out)
            go_wp2_with (go_at_call 30; ((with_reducible refine (l03Canon_any _ _ _ _ (Pl.diffG X y za zb) _ hfin.out).mono ?_)); rintro e w4 ⟨A4, k4, rfl, O4, B4⟩; have I4 := Lib.hid O4; have VR4 := Lib.hid (hVRy.out.step B4); have BB4 := Lib.hid (later hBy.out B4); obtain ⟨l4, r4, f4⟩ := VR4.out.open1; have lr := hVRy.out.lt; clear O4 B4)
            rw [hdf.out]
            refine bodyPost_ret (v := .agg #[.slice A4 (Pl.canon (Pl.diffG X y za zb)).length k4]) (by simp [results, Try.results7, go_sem, r4]) rfl ⟨A4, k4, rfl, ?_, BB4.out.setCell (by show w.heap.size ≤ w.heap.size + 1 + 1; omega) _⟩
            have h1 := Own.far (p := ⟨w.heap.size + 1 + 1, 0, none⟩) I4.out (by left; exact lr) (.slice A4 (Pl.canon (Pl.diffG X y za zb)).length k4)
            exact Own.mono h1 hBy.out.size (by simp [World.setCell]) (Nat.le_refl _)
      · have E : Hid (Pl.diffOf ⟨W, H, za⟩ ⟨W2, H2, zb⟩ = []) := Lib.hid (by simp [Pl.diffOf]; omega)
        by_cases hw : W = W2
        · have hh : H ≠ H2 := fun h => hwh ⟨hw, h⟩
          subst hw
          have b2 : (H != H2) = true := by simpa using hh
          go_wp2_with (first
            | (go_at_call 29; ((with_reducible refine (specImageOk W H A n c l1 h1 za _ (HA.out.step BZ.out)).mono ?_)); rw [hra]; rintro e w9 ⟨rfl, B9⟩; have V19 := Lib.hid (V1.out.step B9); have V29 := Lib.hid (V2.out.step B9); have VR9 := Lib.hid (VR.out.step B9); have BB9 := Lib.hid (later BZ.out B9); obtain ⟨l9, c90, c91, c92, _⟩ := V29.out.open3; clear B9)
            | (go_at_call 29; ((with_reducible refine (specImageOk W H2 B m d l2 h2 zb _ (HB.out.step BB9.out)).mono ?_)); rw [hrb]; rintro e w8 ⟨rfl, B8⟩; have V18 := Lib.hid (V19.out.step B8); have V28 := Lib.hid (V29.out.step B8); have VR8 := Lib.hid (VR9.out.step B8); have BB8 := Lib.hid (later BB9.out B8); obtain ⟨l8, c80, c81, c82, _⟩ := V18.out.open3; obtain ⟨k8, d80, d81, d82, _⟩ := V28.out.open3; obtain ⟨r8, e80, f80⟩ := VR8.out.open1; clear B8))
          rw [E.out]
          exact bodyPost_ret (v := .agg #[.slice none 0 0]) (by simp [results, Try.results7, go_sem, e80]) rfl ⟨none, 0, rfl, Recs.nil _ _ _ (Nat.le_refl _), BB8.out.setCell (by show w.heap.size ≤ w.heap.size + 1 + 1; omega) _⟩
        · have b1 : (W != W2) = true := by simpa using hw
          go_wp2_with (first
            | (go_at_call 29; ((with_reducible refine (specImageOk W H A n c l1 h1 za _ (HA.out.step BZ.out)).mono ?_)); rw [hra]; rintro e w9 ⟨rfl, B9⟩; have V19 := Lib.hid (V1.out.step B9); have V29 := Lib.hid (V2.out.step B9); have VR9 := Lib.hid (VR.out.step B9); have BB9 := Lib.hid (later BZ.out B9); obtain ⟨l9, c90, c91, c92, _⟩ := V29.out.open3; clear B9)
            | (go_at_call 29; ((with_reducible refine (specImageOk W2 H2 B m d l2 h2 zb _ (HB.out.step BB9.out)).mono ?_)); rw [hrb]; rintro e w8 ⟨rfl, B8⟩; have V18 := Lib.hid (V19.out.step B8); have V28 := Lib.hid (V29.out.step B8); have VR8 := Lib.hid (VR9.out.step B8); have BB8 := Lib.hid (later BB9.out B8); obtain ⟨l8, c80, c81, c82, _⟩ := V18.out.open3; obtain ⟨k8, d80, d81, d82, _⟩ := V28.out.open3; obtain ⟨r8, e80, f80⟩ := VR8.out.open1; clear B8))
          rw [E.out]
          exact bodyPost_ret (v := .agg #[.slice none 0 0]) (by simp [results, Try.results7, go_sem, e80]) rfl ⟨none, 0, rfl, Recs.nil _ _ _ (Nat.le_refl _), BB8.out.setCell (by show w.heap.size ≤ w.heap.size + 1 + 1; omega) _⟩
end Go.Proofs.Ytmjjepgnciibcaa
