/- Contract: the program's CopyRegion. -/
import Derived.Test.YtmjjepgnciibcaaCopyR0
import Derived.Test.YtmjjepgnciibcaaDiff1
import Derived.Test.YtmjjepgnciibcaaCopy
import Derived.Test.YtmjjepgnciibcaaRegJ
import Derived.Deep.Cut
namespace Go.Proofs.Ytmjjepgnciibcaa
open Go.RowKit
set_option linter.unusedVariables false
set_option linter.unusedSimpArgs false
attribute [local irreducible] gcells
set_option maxRecDepth 100000 in
set_option maxHeartbeats 4000000 in
theorem implCopyRegion (W H W2 H2 : Int) (A B C : Option Addr) (n m p c d q l1 h1 l2 h2 : Nat) (za zb : List Int) (zr : List Pl.R) (w : World) (IA : Ints w l1 h1 (.slice A n c) za) (IB : Ints w l2 h2 (.slice B m d) zb) (IC : RArg w C zr) (hp : zr.length = p) (hn : n ≤ 1048576) (hpb : p ≤ 9223372036854775807) :
    Calls Try.prog 18 #[.agg #[.int .i64 W, .int .i64 H, .slice A n c], .agg #[.int .i64 W2, .int .i64 H2, .slice B m d], .agg #[.slice C p q]] w (NewImg (Pl.copyRegion ⟨W, H, za⟩ ⟨W2, H2, zb⟩ zr) w) := by
  have HA := Lib.hid IA
  have HB := Lib.hid IB
  have HC := Lib.hid IC
  have HP := Lib.hid hp
  clear IA IB IC hp
  go_enter Try.func18, Try.ntmps18
  go_upto_region 1 with fail
  have V1 := Lib.hid ((((VB.new (w := w) (b := w.heap.size) (t := 30) (cs := [.int .i64 W, .int .i64 H, .slice A n c]) rfl).alloc (.cells #[.int .i64 W2, .int .i64 H2, .slice B m d] 30 (0, 0))).alloc (.cells #[.slice C p q] 28 (0, 0))).alloc (.cells #[.int .i64 0, .int .i64 0, .slice none 0 0] 30 (0, 0)))
  have V2 := Lib.hid (((VB.new (w := (w.alloc (.cells #[.int .i64 W, .int .i64 H, .slice A n c] 30 (0, 0)))) (b := w.heap.size + 1) (t := 30) (cs := [.int .i64 W2, .int .i64 H2, .slice B m d]) (by simp)).alloc (.cells #[.slice C p q] 28 (0, 0))).alloc (.cells #[.int .i64 0, .int .i64 0, .slice none 0 0] 30 (0, 0)))
  have V3 := Lib.hid ((VB.new (w := ((w.alloc (.cells #[.int .i64 W, .int .i64 H, .slice A n c] 30 (0, 0))).alloc (.cells #[.int .i64 W2, .int .i64 H2, .slice B m d] 30 (0, 0)))) (b := w.heap.size + 1 + 1) (t := 28) (cs := [.slice C p q]) (by simp)).alloc (.cells #[.int .i64 0, .int .i64 0, .slice none 0 0] 30 (0, 0)))
  have V4 := Lib.hid (VB.new (w := (((w.alloc (.cells #[.int .i64 W, .int .i64 H, .slice A n c] 30 (0, 0))).alloc (.cells #[.int .i64 W2, .int .i64 H2, .slice B m d] 30 (0, 0))).alloc (.cells #[.slice C p q] 28 (0, 0)))) (b := w.heap.size + 1 + 1 + 1) (t := 30) (cs := [.int .i64 0, .int .i64 0, .slice none 0 0]) (by simp))
  have BZ : Hid (Below w.heap.size w ((((w.alloc (.cells #[.int .i64 W, .int .i64 H, .slice A n c] 30 (0, 0))).alloc (.cells #[.int .i64 W2, .int .i64 H2, .slice B m d] 30 (0, 0))).alloc (.cells #[.slice C p q] 28 (0, 0))).alloc (.cells #[.int .i64 0, .int .i64 0, .slice none 0 0] 30 (0, 0)))) := Lib.hid (by go_grown)
  generalize ((((w.alloc (.cells #[.int .i64 W, .int .i64 H, .slice A n c] 30 (0, 0))).alloc (.cells #[.int .i64 W2, .int .i64 H2, .slice B m d] 30 (0, 0))).alloc (.cells #[.slice C p q] 28 (0, 0))).alloc (.cells #[.int .i64 0, .int .i64 0, .slice none 0 0] 30 (0, 0))) = wv at *
  obtain ⟨ll1, c10, c11, c12, _⟩ := V1.out.open3
  go_wp2_with fail
  refine (copyImage_any W H A n c l1 h1 za _ (HA.out.step BZ.out) hn).mono ?_
  rintro e w1 ⟨A1, k1, rfl, O1, B1⟩
  have I1t := Lib.hid O1
  have BBt := Lib.hid (later BZ.out B1)
  go_upto_region 2 with fail
  have V1u := Lib.hid ((V1.out.step B1).alloc (.cells #[.int .i64 W, .int .i64 H, .slice A1 za.length k1] 30 (0, 0)))
  have V2u := Lib.hid ((V2.out.step B1).alloc (.cells #[.int .i64 W, .int .i64 H, .slice A1 za.length k1] 30 (0, 0)))
  have V3u := Lib.hid ((V3.out.step B1).alloc (.cells #[.int .i64 W, .int .i64 H, .slice A1 za.length k1] 30 (0, 0)))
  have V4u := Lib.hid ((V4.out.step B1).alloc (.cells #[.int .i64 W, .int .i64 H, .slice A1 za.length k1] 30 (0, 0)))
  have VOu := Lib.hid (VB.new (w := w1) (b := w1.heap.size) (t := 30) (cs := [.int .i64 W, .int .i64 H, .slice A1 za.length k1]) rfl)
  have I1u := Lib.hid (Ints.alloc I1t.out (.cells #[.int .i64 W, .int .i64 H, .slice A1 za.length k1] 30 (0, 0)))
  have BBu := Lib.hid (BBt.out.alloc BBt.out.size (.cells #[.int .i64 W, .int .i64 H, .slice A1 za.length k1] 30 (0, 0)))
  have s4 := V4.out.lt
  have sv := BZ.out.size
  have s1 := B1.size
  clear O1 B1 I1t BBt V1 V2 V3 V4 BZ
  generalize w1.alloc (.cells #[.int .i64 W, .int .i64 H, .slice A1 za.length k1] 30 (0, 0)) = wu at *
  cases hra : Pl.imageOk ⟨W, H, za⟩
  · skip
    obtain ⟨q1, q2, q3, q4, _⟩ := V1u.out.open3
    have E : Hid (Pl.copyRegion ⟨W, H, za⟩ ⟨W2, H2, zb⟩ zr = ⟨W, H, za⟩) := Lib.hid (by simp [Pl.copyRegion, hra])
    go_wp2_with (first
      | (go_at_call 32; ((with_reducible refine (implImageOk W H A n c l1 h1 za _ (HA.out.step BBu.out)).mono ?_)); rw [hra]; rintro e w9 ⟨rfl, B9⟩; have V19 := Lib.hid (V1u.out.step B9); have V29 := Lib.hid (V2u.out.step B9); have V39 := Lib.hid (V3u.out.step B9); have V49 := Lib.hid (V4u.out.step B9); have VO9 := Lib.hid (VOu.out.step B9); have I19 := Lib.hid (Ints.step I1u.out B9); have BB9 := Lib.hid (later BBu.out B9); obtain ⟨q1, q2, q3, q4, _⟩ := V29.out.open3; obtain ⟨r1, r2, r3, r4, fr1, fr2, fr3⟩ := VO9.out.open3; obtain ⟨t1, t2, t3, t4, ft1, ft2, ft3⟩ := V49.out.open3; clear B9))
    rw [E.out]
    refine bodyPost_ret (v := .agg #[.int .i64 W, .int .i64 H, .slice A1 za.length k1]) (by simp [results, Try.results18, go_sem, t2, t3, t4]) rfl ⟨A1, k1, rfl, ?_, ((BB9.out.setCell (by show w.heap.size ≤ w.heap.size + 1 + 1 + 1; omega) _).setCell (by show w.heap.size ≤ w.heap.size + 1 + 1 + 1; omega) _).setCell (by show w.heap.size ≤ w.heap.size + 1 + 1 + 1; omega) _⟩
    exact Own.mono (Ints.setc3 I19.out (b := w.heap.size + 1 + 1 + 1) (by left; omega) _ _ _) (by omega) (by have := I19.out.hi_le; simp [World.setCell]; exact this) (Nat.le_refl _)
  cases hrb : Pl.imageOk ⟨W2, H2, zb⟩
  · skip
    obtain ⟨q1, q2, q3, q4, _⟩ := V1u.out.open3
    have E : Hid (Pl.copyRegion ⟨W, H, za⟩ ⟨W2, H2, zb⟩ zr = ⟨W, H, za⟩) := Lib.hid (by simp [Pl.copyRegion, hrb])
    go_wp2_with (first
      | (go_at_call 32; ((with_reducible refine (implImageOk W H A n c l1 h1 za _ (HA.out.step BBu.out)).mono ?_)); rw [hra]; rintro e w9 ⟨rfl, B9⟩; have V19 := Lib.hid (V1u.out.step B9); have V29 := Lib.hid (V2u.out.step B9); have V39 := Lib.hid (V3u.out.step B9); have V49 := Lib.hid (V4u.out.step B9); have VO9 := Lib.hid (VOu.out.step B9); have I19 := Lib.hid (Ints.step I1u.out B9); have BB9 := Lib.hid (later BBu.out B9); obtain ⟨q1, q2, q3, q4, _⟩ := V29.out.open3; obtain ⟨r1, r2, r3, r4, fr1, fr2, fr3⟩ := VO9.out.open3; obtain ⟨t1, t2, t3, t4, ft1, ft2, ft3⟩ := V49.out.open3; clear B9)
      | (go_at_call 32; ((with_reducible refine (implImageOk W2 H2 B m d l2 h2 zb _ (HB.out.step BB9.out)).mono ?_)); rw [hrb]; rintro e w8 ⟨rfl, B8⟩; have V18 := Lib.hid (V19.out.step B8); have V28 := Lib.hid (V29.out.step B8); have V38 := Lib.hid (V39.out.step B8); have V48 := Lib.hid (V49.out.step B8); have VO8 := Lib.hid (VO9.out.step B8); have I18 := Lib.hid (Ints.step I19.out B8); have BB8 := Lib.hid (later BB9.out B8); obtain ⟨q1, q2, _⟩ := V38.out.open1; obtain ⟨r1, r2, r3, r4, fr1, fr2, fr3⟩ := VO8.out.open3; obtain ⟨t1, t2, t3, t4, ft1, ft2, ft3⟩ := V48.out.open3; clear B8))
    rw [E.out]
    refine bodyPost_ret (v := .agg #[.int .i64 W, .int .i64 H, .slice A1 za.length k1]) (by simp [results, Try.results18, go_sem, t2, t3, t4]) rfl ⟨A1, k1, rfl, ?_, ((BB8.out.setCell (by show w.heap.size ≤ w.heap.size + 1 + 1 + 1; omega) _).setCell (by show w.heap.size ≤ w.heap.size + 1 + 1 + 1; omega) _).setCell (by show w.heap.size ≤ w.heap.size + 1 + 1 + 1; omega) _⟩
    exact Own.mono (Ints.setc3 I18.out (b := w.heap.size + 1 + 1 + 1) (by left; omega) _ _ _) (by omega) (by have := I18.out.hi_le; simp [World.setCell]; exact this) (Nat.le_refl _)
  cases hrr : Pl.regionOk zr
  · skip
    obtain ⟨q1, q2, q3, q4, _⟩ := V1u.out.open3
    have E : Hid (Pl.copyRegion ⟨W, H, za⟩ ⟨W2, H2, zb⟩ zr = ⟨W, H, za⟩) := Lib.hid (by simp [Pl.copyRegion, hrr])
    go_wp2_with (first
      | (go_at_call 32; ((with_reducible refine (implImageOk W H A n c l1 h1 za _ (HA.out.step BBu.out)).mono ?_)); rw [hra]; rintro e w9 ⟨rfl, B9⟩; have V19 := Lib.hid (V1u.out.step B9); have V29 := Lib.hid (V2u.out.step B9); have V39 := Lib.hid (V3u.out.step B9); have V49 := Lib.hid (V4u.out.step B9); have VO9 := Lib.hid (VOu.out.step B9); have I19 := Lib.hid (Ints.step I1u.out B9); have BB9 := Lib.hid (later BBu.out B9); obtain ⟨q1, q2, q3, q4, _⟩ := V29.out.open3; obtain ⟨r1, r2, r3, r4, fr1, fr2, fr3⟩ := VO9.out.open3; obtain ⟨t1, t2, t3, t4, ft1, ft2, ft3⟩ := V49.out.open3; clear B9)
      | (go_at_call 32; ((with_reducible refine (implImageOk W2 H2 B m d l2 h2 zb _ (HB.out.step BB9.out)).mono ?_)); rw [hrb]; rintro e w8 ⟨rfl, B8⟩; have V18 := Lib.hid (V19.out.step B8); have V28 := Lib.hid (V29.out.step B8); have V38 := Lib.hid (V39.out.step B8); have V48 := Lib.hid (V49.out.step B8); have VO8 := Lib.hid (VO9.out.step B8); have I18 := Lib.hid (Ints.step I19.out B8); have BB8 := Lib.hid (later BB9.out B8); obtain ⟨q1, q2, _⟩ := V38.out.open1; obtain ⟨r1, r2, r3, r4, fr1, fr2, fr3⟩ := VO8.out.open3; obtain ⟨t1, t2, t3, t4, ft1, ft2, ft3⟩ := V48.out.open3; clear B8)
      | (go_at_call 45; ((with_reducible refine (implRegionOk C p q zr _ (HC.out.below BB8.out) HP.out hpb).mono ?_)); rw [hrr]; rintro e w5 ⟨rfl, B5⟩; have V15 := Lib.hid (V18.out.step B5); have V25 := Lib.hid (V28.out.step B5); have V35 := Lib.hid (V38.out.step B5); have V45 := Lib.hid (V48.out.step B5); have VO5 := Lib.hid (VO8.out.step B5); have I15 := Lib.hid (Ints.step I18.out B5); have BB5 := Lib.hid (later BB8.out B5); obtain ⟨q1, q2, _⟩ := V35.out.open1; obtain ⟨r1, r2, r3, r4, fr1, fr2, fr3⟩ := VO5.out.open3; obtain ⟨t1, t2, t3, t4, ft1, ft2, ft3⟩ := V45.out.open3; clear B5))
    rw [E.out]
    refine bodyPost_ret (v := .agg #[.int .i64 W, .int .i64 H, .slice A1 za.length k1]) (by simp [results, Try.results18, go_sem, t2, t3, t4]) rfl ⟨A1, k1, rfl, ?_, ((BB5.out.setCell (by show w.heap.size ≤ w.heap.size + 1 + 1 + 1; omega) _).setCell (by show w.heap.size ≤ w.heap.size + 1 + 1 + 1; omega) _).setCell (by show w.heap.size ≤ w.heap.size + 1 + 1 + 1; omega) _⟩
    exact Own.mono (Ints.setc3 I15.out (b := w.heap.size + 1 + 1 + 1) (by left; omega) _ _ _) (by omega) (by have := I15.out.hi_le; simp [World.setCell]; exact this) (Nat.le_refl _)
  obtain ⟨hW, hH, hlenA, _⟩ := Pl.imageOk_t hra
  obtain ⟨hW2, hH2, hlenB, _⟩ := Pl.imageOk_t hrb
  simp only at hW hH hlenA hW2 hH2 hlenB
  obtain ⟨X, rfl⟩ := Int.eq_ofNat_of_zero_le (show 0 ≤ W by omega)
  obtain ⟨Y, rfl⟩ := Int.eq_ofNat_of_zero_le (show 0 ≤ H by omega)
  obtain ⟨X2, rfl⟩ := Int.eq_ofNat_of_zero_le (show 0 ≤ W2 by omega)
  obtain ⟨Y2, rfl⟩ := Int.eq_ofNat_of_zero_le (show 0 ≤ H2 by omega)
  obtain ⟨M, hMn⟩ : ∃ M, min Y Y2 = M := ⟨_, rfl⟩
  obtain ⟨N, hNn⟩ : ∃ N, min X X2 = N := ⟨_, rfl⟩
  have hM : min (Y : Int) (Y2 : Int) = (M : Int) := by omega
  have hN : min (X : Int) (X2 : Int) = (N : Int) := by omega
  have M1 : M ≤ Y := by omega
  have M2 : M ≤ Y2 := by omega
  have N1 : N ≤ X := by omega
  have N2 : N ≤ X2 := by omega
  have LA : za.length = X * Y := by exact_mod_cast hlenA
  have LB : zb.length = X2 * Y2 := by exact_mod_cast hlenB
  have E : Hid (Pl.copyRegion ⟨(X : Int), (Y : Int), za⟩ ⟨(X2 : Int), (Y2 : Int), zb⟩ zr = ⟨X, Y, Pl.copyK X X2 (Pl.gridL zr) za zb (fun y x => decide (y < M) && decide (x < N))⟩) := Lib.hid (by simp [Pl.copyRegion, hra, hrb, hrr, hMn, hNn])
  have HLA := Lib.hid LA
  have HLB := Lib.hid LB
  have HMN := Lib.hid hMn
  have HNN := Lib.hid hNn
  clear hMn hNn hlenA hlenB LA LB
  obtain ⟨q1, q2, q3, q4, _⟩ := V1u.out.open3
  go_wp2_with (first
    | (go_at_call 32; ((with_reducible refine (implImageOk (X : Int) (Y : Int) A n c l1 h1 za _ (HA.out.step BBu.out)).mono ?_)); rw [hra]; rintro e w9 ⟨rfl, B9⟩; have V19 := Lib.hid (V1u.out.step B9); have V29 := Lib.hid (V2u.out.step B9); have V39 := Lib.hid (V3u.out.step B9); have V49 := Lib.hid (V4u.out.step B9); have VO9 := Lib.hid (VOu.out.step B9); have I19 := Lib.hid (Ints.step I1u.out B9); have BB9 := Lib.hid (later BBu.out B9); obtain ⟨q1, q2, q3, q4, _⟩ := V29.out.open3; obtain ⟨r1, r2, r3, r4, fr1, fr2, fr3⟩ := VO9.out.open3; obtain ⟨t1, t2, t3, t4, ft1, ft2, ft3⟩ := V49.out.open3; clear B9)
    | (go_at_call 32; ((with_reducible refine (implImageOk (X2 : Int) (Y2 : Int) B m d l2 h2 zb _ (HB.out.step BB9.out)).mono ?_)); rw [hrb]; rintro e w8 ⟨rfl, B8⟩; have V18 := Lib.hid (V19.out.step B8); have V28 := Lib.hid (V29.out.step B8); have V38 := Lib.hid (V39.out.step B8); have V48 := Lib.hid (V49.out.step B8); have VO8 := Lib.hid (VO9.out.step B8); have I18 := Lib.hid (Ints.step I19.out B8); have BB8 := Lib.hid (later BB9.out B8); obtain ⟨q1, q2, _⟩ := V38.out.open1; obtain ⟨r1, r2, r3, r4, fr1, fr2, fr3⟩ := VO8.out.open3; obtain ⟨t1, t2, t3, t4, ft1, ft2, ft3⟩ := V48.out.open3; clear B8)
    | (go_at_call 45; ((with_reducible refine (implRegionOk C p q zr _ (HC.out.below BB8.out) HP.out hpb).mono ?_)); rw [hrr]; rintro e w5 ⟨rfl, B5⟩; have V15 := Lib.hid (V18.out.step B5); have V25 := Lib.hid (V28.out.step B5); have V35 := Lib.hid (V38.out.step B5); have V45 := Lib.hid (V48.out.step B5); have VO5 := Lib.hid (VO8.out.step B5); have I15 := Lib.hid (Ints.step I18.out B5); have BB5 := Lib.hid (later BB8.out B5); obtain ⟨q1, q2, _⟩ := V35.out.open1; obtain ⟨r1, r2, r3, r4, fr1, fr2, fr3⟩ := VO5.out.open3; obtain ⟨t1, t2, t3, t4, ft1, ft2, ft3⟩ := V45.out.open3; clear B5)
    | (go_at_call 46; ((with_reducible refine (gridOfRegion_any C p q zr _ (HC.out.below BB5.out) HP.out hpb).mono ?_)); rintro e w4 ⟨rfl, B4⟩; have V14 := Lib.hid (V15.out.step B4); have V24 := Lib.hid (V25.out.step B4); have V34 := Lib.hid (V35.out.step B4); have V44 := Lib.hid (V45.out.step B4); have VO4 := Lib.hid (VO5.out.step B4); have I14 := Lib.hid (Ints.step I15.out B4); have BB4 := Lib.hid (later BB5.out B4); clear B4)
    | (refine wpList_gstore (Pl.gnum zr) _ _ rfl rfl rfl rfl (by rw [← gcells_zero]; exact GB.new rfl) ?_; intro w3 G3 O3 S3; have V13 := Lib.hid ((V14.out.alloc _).out O3 (by have := V14.out.lt; omega)); have V23 := Lib.hid ((V24.out.alloc _).out O3 (by have := V24.out.lt; omega)); have V33 := Lib.hid ((V34.out.alloc _).out O3 (by have := V34.out.lt; omega)); have V43 := Lib.hid ((V44.out.alloc _).out O3 (by have := V44.out.lt; omega)); have VO3 := Lib.hid ((VO4.out.alloc _).out O3 (by have := VO4.out.lt; omega)); have I13 := Lib.hid (Ints.out (Ints.alloc I14.out _) O3 (by left; exact I14.out.hi_le)); have BB3 := Lib.hid ((BB4.out.alloc BB4.out.size _).trans (O3.below (by have := BB4.out.size; omega) (by have := BB4.out.size; simp; omega))); have G3' := Lib.hid G3; have t4s := VO4.out.lt; have t5s := V44.out.lt; obtain ⟨x1, x2, x3, x4, _⟩ := V13.out.open3; obtain ⟨y1, y2, y3, y4, _⟩ := V23.out.open3; clear G3 O3 S3))
  clear q1 q2 q3 q4 x1 x2 x3 x4 y1 y2 y3 y4
  go_loopw [34] (fun sy wr => ∃ y : Nat, y ≤ M ∧ sy = .int .i64 y ∧ Hid (Ints wr wv.heap.size w1.heap.size (.slice A1 za.length k1) (Pl.copyK X X2 (Pl.gridL zr) za zb (fun j i => decide (j < y) && decide (i < N)))) ∧ Hid (GB wr w4.heap.size (Pl.gnum zr)) ∧ Hid (VB wr w.heap.size [.int .i64 X, .int .i64 Y, .slice A n c]) ∧ Hid (VB wr (w.heap.size + 1) [.int .i64 X2, .int .i64 Y2, .slice B m d]) ∧ Hid (VB wr w1.heap.size [.int .i64 X, .int .i64 Y, .slice A1 za.length k1]) ∧ Hid (VB wr (w.heap.size + 1 + 1 + 1) [.int .i64 0, .int .i64 0, .slice none 0 0]) ∧ Hid (Below w.heap.size w wr)) (fun sy _ => M - (intOf sy).toNat)
  case atStart => exact ⟨0, by omega, rfl, Lib.hid (by rw [Pl.copyK_congr (G' := Pl.gridL zr) (Q := fun _ _ => false) (fun k _ => by simp), Pl.copyK_none]; exact I13.out), G3', V13, V23, VO3, V43, BB3⟩
  case round =>
    obtain ⟨wy, rfl⟩ : ∃ wy : World, wy = wr := ⟨_, rfl⟩
    obtain ⟨y, hy, rfl, hS, hG, hV1, hV2, hVO, hVR, hB⟩ := hrel
    have yp0 : (0 : Int) ≤ (y : Int) := Int.natCast_nonneg _
    obtain ⟨a1, a2, a3, a4, _⟩ := hV1.out.open3
    obtain ⟨b1, b2, b3, b4, _⟩ := hV2.out.open3
    by_cases hylt : y < M
    · have yp1 : (y : Int) < M := by omega
      have yp2 : (y : Int) < 16 := by omega
      have y16 : y < 16 := by omega
      go_wp2_with fail
      clear a1 a2 a3 a4 b1 b2 b3 b4
      go_loopw [42] (fun sx wr => ∃ x : Nat, x ≤ N ∧ sx = .int .i64 x ∧ Hid (Ints wr wv.heap.size w1.heap.size (.slice A1 za.length k1) (Pl.copyK X X2 (Pl.gridL zr) za zb (fun j i => (decide (j < y) && decide (i < N)) || (decide (j = y) && decide (i < x))))) ∧ Hid (GB wr w4.heap.size (Pl.gnum zr)) ∧ Hid (VB wr w.heap.size [.int .i64 X, .int .i64 Y, .slice A n c]) ∧ Hid (VB wr (w.heap.size + 1) [.int .i64 X2, .int .i64 Y2, .slice B m d]) ∧ Hid (VB wr w1.heap.size [.int .i64 X, .int .i64 Y, .slice A1 za.length k1]) ∧ Hid (VB wr (w.heap.size + 1 + 1 + 1) [.int .i64 0, .int .i64 0, .slice none 0 0]) ∧ Hid (Below w.heap.size w wr)) (fun sx _ => N - (intOf sx).toNat)
      case atStart => exact ⟨0, by omega, rfl, Lib.hid (by rw [Pl.copyK_congr (G' := Pl.gridL zr) (Q := fun j i => decide (j < y) && decide (i < N)) (fun k _ => by simp)]; exact hS.out), hG, hV1, hV2, hVO, hVR, hB⟩
      case round =>
        obtain ⟨wo, rfl⟩ : ∃ wo : World, wo = wr := ⟨_, rfl⟩
        obtain ⟨x, hx, rfl, hS, hG, hV1, hV2, hVO, hVR, hB⟩ := hrel
        have xp0 : (0 : Int) ≤ (x : Int) := Int.natCast_nonneg _
        by_cases hxlt : x < N
        · have xp1 : (x : Int) < N := by omega
          have xp2 : (x : Int) < 16 := by omega
          have x16 : x < 16 := by omega
          have lg := hG.out.lt
          have cy := hG.out.cell y16
          have hbt := bit_test ((Pl.gnum_holds zr).lt y y16) x16
          rw [((Pl.gnum_holds zr) y y16).2 x x16] at hbt
          have hbt2 : (bits .and .i64 ((Pl.gnum zr y : Nat) : Int) (wrap64 (2 ^ x)) != 0) = Pl.gridL zr y x := by unfold wrap64; rw [← IntKind.wrap_i64]; exact hbt
          clear hbt
          cases hgz : Pl.gridL zr y x
          · rw [hgz] at hbt2
            go_wp2_with fail
            go_region
            go_wp2_with fail
            go_roundw
            case rel =>
              refine ⟨x + 1, by omega, by go_num, Lib.hid ?_, Lib.hid (GB.drew hG.out), Lib.hid (VB.drew hV1.out), Lib.hid (VB.drew hV2.out), Lib.hid (VB.drew hVO.out), Lib.hid (VB.drew hVR.out), Lib.hid (Below.drew hB.out)⟩
              have h9 := hS.out
              rw [Pl.copyK_skip hgz] at h9
              rw [Pl.copyK_congr (G' := Pl.gridL zr) (Q := fun j i => ((decide (j < y) && decide (i < N)) || (decide (j = y) && decide (i < x))) || decide (j = y ∧ i = x)) (fun k _ => by congr 1; rw [Bool.eq_iff_iff]; simp; omega)]
              exact h9
            case measure => simp [intOf]; omega
          · rw [hgz] at hbt2
            go_wp2_with fail
            go_region
            go_wp2_with fail
            have hpl : y * X + x < za.length := by
              rw [HLA.out]
              have h2 : (y + 1) * X ≤ Y * X := Nat.mul_le_mul_right X (by omega)
              rw [Nat.succ_mul] at h2
              rw [Nat.mul_comm X Y]
              omega
            have hpl2 : y * X2 + x < zb.length := by
              rw [HLB.out]
              have h2 : (y + 1) * X2 ≤ Y2 * X2 := Nat.mul_le_mul_right X2 (by omega)
              rw [Nat.succ_mul] at h2
              rw [Nat.mul_comm X2 Y2]
              omega
            have hb256 : zb.length ≤ 256 := by rw [HLB.out]; exact Nat.mul_le_mul (show X2 ≤ 16 by omega) (show Y2 ≤ 16 by omega)
            have ha256 : za.length ≤ 256 := by rw [HLA.out]; exact Nat.mul_le_mul (show X ≤ 16 by omega) (show Y ≤ 16 by omega)
            have hm : zb.length = m := HB.out.len_eq
            have HXX := Lib.hid hpl
            obtain ⟨yx, hyx⟩ : ∃ v, y * X = v := ⟨_, rfl⟩
            obtain ⟨yz, hyz⟩ : ∃ v, y * X2 = v := ⟨_, rfl⟩
            have hyxi : (y : Int) * (X : Int) = (yx : Int) := by rw [← hyx]; simp
            have hyzi : (y : Int) * (X2 : Int) = (yz : Int) := by rw [← hyz]; simp
            rw [hyx] at hpl
            rw [hyz] at hpl2
            have HYX := Lib.hid hyx
            have HYZ := Lib.hid hyz
            clear hyx hyz
            obtain ⟨j, hj⟩ : ∃ v, yx + x = v := ⟨_, rfl⟩
            obtain ⟨i, hi⟩ : ∃ v, yz + x = v := ⟨_, rfl⟩
            have hji : (yx : Int) + (x : Int) = (j : Int) := by omega
            have hii : (yz : Int) + (x : Int) = (i : Int) := by omega
            rw [hj] at hpl
            rw [hi] at hpl2
            have HJ := Lib.hid hj
            have HI := Lib.hid hi
            clear hj hi
            obtain ⟨g, z, rfl, lgo, ghi, e1, cc, fc⟩ := hS.out.at_ hpl
            clear e1
            obtain ⟨g2, z2, rfl, _, hg2, e2, cc2, _⟩ := (HB.out.step hB.out).at_ (k := i) (by omega)
            have HZ : Hid (zb.getD i 0 = z2) := Lib.hid (by simp [List.getD_eq_getElem?_getD, e2])
            clear e2
            obtain ⟨a1, a2, a3, a4, _⟩ := hV1.out.open3
            obtain ⟨b1, b2, b3, b4, _⟩ := hV2.out.open3
            obtain ⟨d1, d2, d3, d4, _⟩ := hVO.out.open3
            have lo1 := hS.out.hi_le
            have lgw : g < wo.heap.size := by omega
            have u1 : IntKind.i64.wrap (yx : Int) = (yx : Int) := IntWalk.i64_in _ ⟨by omega, by omega⟩
            have u2 : IntKind.i64.wrap (yz : Int) = (yz : Int) := IntWalk.i64_in _ ⟨by omega, by omega⟩
            have u3 : IntKind.i64.wrap (j : Int) = (j : Int) := IntWalk.i64_in _ ⟨by omega, by omega⟩
            have u4 : IntKind.i64.wrap (i : Int) = (i : Int) := IntWalk.i64_in _ ⟨by omega, by omega⟩
            have u5 : (j : Int) < za.length := by omega
            have u6 : (i : Int) < m := by omega
            go_region
            go_wp2_with fail
            go_roundw
            case rel =>
              refine ⟨x + 1, by omega, by go_num, Lib.hid ?_, Lib.hid (GB.drew (GB.drew (hG.out.far _ _ (by show w4.heap.size ≠ g; omega)))), Lib.hid (VB.drew (VB.drew (hV1.out.far _ _ (by show w.heap.size ≠ g; omega)))), Lib.hid (VB.drew (VB.drew (hV2.out.far _ _ (by show w.heap.size + 1 ≠ g; omega)))), Lib.hid (VB.drew (VB.drew (hVO.out.far _ _ (by show w1.heap.size ≠ g; omega)))), Lib.hid (VB.drew (VB.drew (hVR.out.far _ _ (by show w.heap.size + 1 + 1 + 1 ≠ g; omega)))), Lib.hid (Below.drew (Below.drew (hB.out.setCell (by show w.heap.size ≤ g; omega) _)))⟩
              have h9 := hS.out.stored j z2
              rw [← HZ.out, ← HJ.out, ← HYX.out, ← HI.out, ← HYZ.out, Pl.copyK_set (show x < X by omega) HXX.out hgz] at h9
              rw [Pl.copyK_congr (G' := Pl.gridL zr) (Q := fun j i => ((decide (j < y) && decide (i < N)) || (decide (j = y) && decide (i < x))) || decide (j = y ∧ i = x)) (fun k _ => by congr 1; rw [Bool.eq_iff_iff]; simp; omega)]
              rw [← HZ.out, ← HJ.out, ← HYX.out, ← HI.out, ← HYZ.out]
              exact h9
            case measure => simp [intOf]; omega
        · obtain rfl : x = N := by omega
          obtain ⟨a1, a2, a3, a4, _⟩ := hV1.out.open3
          go_wp2_with fail
          go_roundw
          case rel =>
            refine ⟨y + 1, by omega, by go_num, Lib.hid ?_, hG, hV1, hV2, hVO, hVR, hB⟩
            rw [Pl.copyK_congr (G' := Pl.gridL zr) (Q := fun j i => (decide (j < y) && decide (i < x)) || (decide (j = y) && decide (i < x))) (fun k _ => by congr 1; rw [Bool.eq_iff_iff]; simp; omega)]
            exact hS.out
          case measure => simp [intOf]; omega
    · obtain rfl : y = M := by omega
      obtain ⟨d1, d2, d3, d4, _⟩ := hVO.out.open3
      obtain ⟨t1, t2, t3, t4, ft1, ft2, ft3⟩ := hVR.out.open3
      go_wp2_with fail
      rw [E.out]
      refine bodyPost_ret (v := .agg #[.int .i64 X, .int .i64 Y, .slice A1 za.length k1]) (by simp [results, Try.results18, go_sem, t2, t3, t4]) rfl ⟨A1, k1, by rw [Pl.copyK_length], ?_, ((hB.out.setCell (by show w.heap.size ≤ w.heap.size + 1 + 1 + 1; omega) _).setCell (by show w.heap.size ≤ w.heap.size + 1 + 1 + 1; omega) _).setCell (by show w.heap.size ≤ w.heap.size + 1 + 1 + 1; omega) _⟩
      rw [Pl.copyK_length]
      exact Own.mono (Ints.setc3 hS.out (b := w.heap.size + 1 + 1 + 1) (by left; omega) _ _ _) (by omega) (by have := hS.out.hi_le; simp [World.setCell]; exact this) (Nat.le_refl _)
end Go.Proofs.Ytmjjepgnciibcaa
