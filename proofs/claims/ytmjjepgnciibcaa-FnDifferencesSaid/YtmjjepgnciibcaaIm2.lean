/- Contracts over images: ImageOk, SameImage, PixelOf. -/
import Derived.Test.YtmjjepgnciibcaaIm
namespace Go.Proofs.Ytmjjepgnciibcaa.Pl
theorem imageOk_all {W H : Int} {zs : List Int} (h1 : inB W 1 16 = true) (h2 : inB H 1 16 = true) (h3 : (zs.length : Int) = W * H) : imageOk ⟨W, H, zs⟩ = zs.all isPix := by
  simp only [imageOk, h1, h2, Bool.true_and, h3, decide_true]
theorem all_take_snoc {zs : List Int} {k : Nat} {z : Int} (h : zs[k]? = some z) (h1 : (zs.take k).all isPix = true) (h2 : isPix z = true) : (zs.take (k + 1)).all isPix = true := by
  rw [take_snoc h, List.all_append, h1]; simp [h2]
theorem all_no {zs : List Int} {k : Nat} {z : Int} (h : zs[k]? = some z) (h2 : isPix z = false) : zs.all isPix = false := by
  rw [List.all_eq_false]
  exact ⟨z, List.mem_of_getElem? h, by simp [h2]⟩
/-- A pixel's place lies within the data. -/
theorem place {w h x y : Int} (hw : 1 ≤ w ∧ w ≤ 16) (hh : 1 ≤ h ∧ h ≤ 16) (hx : 0 ≤ x ∧ x ≤ w - 1) (hy : 0 ≤ y ∧ y ≤ h - 1) : 0 ≤ y * w + x ∧ y * w + x < w * h ∧ 0 ≤ y * w ∧ y * w ≤ 256 := by
  have h1 : (y + 1) * w ≤ h * w := Int.mul_le_mul_of_nonneg_right (by omega) (by omega)
  have h2 : 0 ≤ y * w := Int.mul_nonneg (by omega) (by omega)
  rw [Int.add_mul, Int.one_mul, Int.mul_comm h w] at h1
  have h3 := mul_bd (a := w) (b := h) (A := 16) (B := 16) (by omega) (by omega) (by omega) (by omega)
  omega
end Go.Proofs.Ytmjjepgnciibcaa.Pl
namespace Go.Proofs.Ytmjjepgnciibcaa
open Go.RowKit
set_option maxHeartbeats 1000000 in
theorem slEqual_any (A1 A2 : Option Addr) (n m c1 c2 l1 h1 l2 h2 : Nat) (zs ys : List Int) (w : World) (H1 : Ints w l1 h1 (.slice A1 n c1) zs) (H2 : Ints w l2 h2 (.slice A2 m c2) ys) :
    Calls Try.prog 58 #[.slice A1 n c1, .slice A2 m c2] w fun e w' => e = .returned (.bool (decide (zs = ys))) ∧ Below w.heap.size w w' := by
  have b1 := H1.bd
  have b2 := H2.bd
  have L1 := Lib.hid H1.len_eq
  have L2 := Lib.hid H2.len_eq
  have G1 := Lib.hid H1
  have G2 := Lib.hid H2
  clear H1 H2
  by_cases hnm : n = m
  · subst hnm
    go_enter Try.func58, Try.ntmps58
    go_wp2_with fail
    go_loopw [13] (fun i wr => ∃ k j : Nat, k ≤ n ∧ i = .int .i64 k ∧ zs.take k = ys.take k ∧ wr = w.drewN j) (fun i _ => n - (intOf i).toNat)
    case atStart => exact ⟨0, 0, Nat.zero_le _, rfl, rfl, rfl⟩
    case round =>
      obtain ⟨k, j, hk, rfl, ht, rfl⟩ := hrel
      have HT := Lib.hid ht
      clear ht
      by_cases hlt : k < n
      · obtain ⟨g1, z, rfl, _, _, e1, cc1, _⟩ := G1.out.at_ hlt
        obtain ⟨g2, y, rfl, _, _, e2, cc2, _⟩ := G2.out.at_ hlt
        have E1 := Lib.hid e1
        have E2 := Lib.hid e2
        clear e1 e2
        by_cases hzy : z = y
        · subst hzy
          go_wp2_with fail
          go_quiet (fail)
          go_wp2_with fail
          go_roundw
          case rel => exact ⟨k + 1, _, by omega, by go_num, by rw [Pl.take_snoc E1.out, Pl.take_snoc E2.out, HT.out], rfl⟩
          case measure => simp [intOf]; omega
        · have hb : (z != y) = true := by simpa using hzy
          have hne : zs ≠ ys := by
            intro h
            have := E1.out
            rw [h, E2.out] at this
            exact hzy (by injection this with this; exact this.symm)
          have HN := Lib.hid hne
          clear hne
          go_wp2_with fail
          go_quiet (fail)
          go_wp2_with fail
          go_ret
          exact ⟨ret_bool (by simp [HN.out]), by go_grown; all_goals (first | exact below_refl_drewN _ _ _ | exact below_drewN (below_refl_drewN _ _ _) _)⟩
      · go_wp2_with fail
        go_ret
        exact ⟨ret_bool (by simp [Pl.take_eq_of_le HT.out L1.out L2.out (by omega)]), by go_grown; all_goals (first | exact below_refl_drewN _ _ _ | exact below_drewN (below_refl_drewN _ _ _) _)⟩
  · have hb : ((n : Int) != (m : Int)) = true := by simp; omega
    have hne : zs ≠ ys := by
      intro h
      have a := L1.out
      have b := L2.out
      rw [h] at a
      omega
    go_enter Try.func58, Try.ntmps58
    go_wp2_with fail
    go_ret
    exact ⟨ret_bool (by simp [hne]), by go_grown⟩
set_option maxHeartbeats 1000000 in
theorem specImageOk (W H : Int) (A : Option Addr) (n c lo hi : Nat) (zs : List Int) (w : World) (HI : Ints w lo hi (.slice A n c) zs) :
    Calls Try.prog 29 #[.agg #[.int .i64 W, .int .i64 H, .slice A n c]] w fun e w' => e = .returned (.bool (Pl.imageOk ⟨W, H, zs⟩)) ∧ Below w.heap.size w w' := by
  have bn := HI.bd
  have L := Lib.hid HI.len_eq
  have G := Lib.hid HI
  clear HI
  cases hW : Pl.inB W 1 16
  case false =>
    go_enter Try.func29, Try.ntmps29
    go_wp2_with (first | (go_at_call 60; ((with_reducible refine (l01In_any _ _ _ _).mono ?_)); rintro e w' ⟨rfl, rfl⟩) | (go_at_call 51; ((with_reducible refine (l04Pixel_any _ _).mono ?_)); rintro e w' ⟨rfl, rfl⟩))
    go_ret
    exact ⟨ret_bool (by simp [Pl.imageOk, hW]), by go_grown⟩
  cases hH : Pl.inB H 1 16
  case false =>
    go_enter Try.func29, Try.ntmps29
    go_wp2_with (first | (go_at_call 60; ((with_reducible refine (l01In_any _ _ _ _).mono ?_)); rintro e w' ⟨rfl, rfl⟩) | (go_at_call 51; ((with_reducible refine (l04Pixel_any _ _).mono ?_)); rintro e w' ⟨rfl, rfl⟩))
    go_ret
    exact ⟨ret_bool (by simp [Pl.imageOk, hH]), by go_grown⟩
  have ⟨_, _⟩ := Pl.inB_t hW
  have ⟨_, _⟩ := Pl.inB_t hH
  have ⟨_, _⟩ := Pl.mul_bd (a := W) (b := H) (A := 16) (B := 16) (by omega) (by omega) (by omega) (by omega)
  by_cases hn : (n : Int) = W * H
  case neg =>
    have hb : ((n : Int) != W * H) = true := by simpa using hn
    have HN := Lib.hid hn
    clear hn
    go_enter Try.func29, Try.ntmps29
    go_wp2_with (first | (go_at_call 60; ((with_reducible refine (l01In_any _ _ _ _).mono ?_)); rintro e w' ⟨rfl, rfl⟩) | (go_at_call 51; ((with_reducible refine (l04Pixel_any _ _).mono ?_)); rintro e w' ⟨rfl, rfl⟩))
    go_ret
    exact ⟨ret_bool (by have := HN.out; rw [← L.out] at this; simp [Pl.imageOk, this]), by go_grown⟩
  have hb : ((n : Int) != W * H) = false := by simpa using hn
  have HE := Lib.hid (Pl.imageOk_all hW hH (by rw [L.out]; exact hn))
  clear hn
  go_enter Try.func29, Try.ntmps29
  go_wp2_with (first | (go_at_call 60; ((with_reducible refine (l01In_any _ _ _ _).mono ?_)); rintro e w' ⟨rfl, rfl⟩) | (go_at_call 51; ((with_reducible refine (l04Pixel_any _ _).mono ?_)); rintro e w' ⟨rfl, rfl⟩))
  go_loop [3] (fun i => ∃ k : Nat, k ≤ n ∧ i = .int .i64 k ∧ Hid ((zs.take k).all Pl.isPix = true)) (fun i => n - (intOf i).toNat)
  case atStart => exact ⟨0, Nat.zero_le _, rfl, by show _ = _; simp⟩
  case round =>
    obtain ⟨k, hk, rfl, HT⟩ := hrel
    by_cases hlt : k < n
    · obtain ⟨g, z, rfl, hg, e1, cc⟩ := G.out.gt hlt
      have E1 := Lib.hid e1
      clear e1
      cases hp : Pl.isPix z
      · go_wp2_with (first | (go_at_call 60; ((with_reducible refine (l01In_any _ _ _ _).mono ?_)); rintro e w' ⟨rfl, rfl⟩) | (go_at_call 51; ((with_reducible refine (l04Pixel_any _ _).mono ?_)); rintro e w' ⟨rfl, rfl⟩))
        go_ret
        exact ⟨ret_bool (by rw [HE.out, Pl.all_no E1.out hp]), by go_grown⟩
      · go_wp2_with (first | (go_at_call 60; ((with_reducible refine (l01In_any _ _ _ _).mono ?_)); rintro e w' ⟨rfl, rfl⟩) | (go_at_call 51; ((with_reducible refine (l04Pixel_any _ _).mono ?_)); rintro e w' ⟨rfl, rfl⟩))
        go_round
        case rel => exact ⟨k + 1, by omega, by go_num, Pl.all_take_snoc E1.out HT.out hp⟩
        case measure => simp [intOf]; omega
    · go_wp2_with (first | (go_at_call 60; ((with_reducible refine (l01In_any _ _ _ _).mono ?_)); rintro e w' ⟨rfl, rfl⟩) | (go_at_call 51; ((with_reducible refine (l04Pixel_any _ _).mono ?_)); rintro e w' ⟨rfl, rfl⟩))
      go_ret
      exact ⟨ret_bool (by rw [HE.out]; have := HT.out; rw [List.take_of_length_le (by rw [L.out]; omega)] at this; exact this.symm), by go_grown⟩
set_option maxHeartbeats 1000000 in
theorem implImageOk (W H : Int) (A : Option Addr) (n c lo hi : Nat) (zs : List Int) (w : World) (HI : Ints w lo hi (.slice A n c) zs) :
    Calls Try.prog 32 #[.agg #[.int .i64 W, .int .i64 H, .slice A n c]] w fun e w' => e = .returned (.bool (Pl.imageOk ⟨W, H, zs⟩)) ∧ Below w.heap.size w w' := by
  have bn := HI.bd
  have L := Lib.hid HI.len_eq
  have G := Lib.hid HI
  clear HI
  cases hW : Pl.inB W 1 16
  case false =>
    go_enter Try.func32, Try.ntmps32
    go_wp2_with (first | (go_at_call 62; ((with_reducible refine (isSide_any _ _).mono ?_)); rintro e w' ⟨rfl, rfl⟩) | (go_at_call 63; ((with_reducible refine (isPixel_any _ _).mono ?_)); rintro e w' ⟨rfl, rfl⟩))
    go_ret
    exact ⟨ret_bool (by simp [Pl.imageOk, hW]), by go_grown⟩
  cases hH : Pl.inB H 1 16
  case false =>
    go_enter Try.func32, Try.ntmps32
    go_wp2_with (first | (go_at_call 62; ((with_reducible refine (isSide_any _ _).mono ?_)); rintro e w' ⟨rfl, rfl⟩) | (go_at_call 63; ((with_reducible refine (isPixel_any _ _).mono ?_)); rintro e w' ⟨rfl, rfl⟩))
    go_ret
    exact ⟨ret_bool (by simp [Pl.imageOk, hH]), by go_grown⟩
  have ⟨_, _⟩ := Pl.inB_t hW
  have ⟨_, _⟩ := Pl.inB_t hH
  have ⟨_, _⟩ := Pl.mul_bd (a := W) (b := H) (A := 16) (B := 16) (by omega) (by omega) (by omega) (by omega)
  by_cases hn : (n : Int) = W * H
  case neg =>
    have hb : ((n : Int) != W * H) = true := by simpa using hn
    have HN := Lib.hid hn
    clear hn
    go_enter Try.func32, Try.ntmps32
    go_wp2_with (first | (go_at_call 62; ((with_reducible refine (isSide_any _ _).mono ?_)); rintro e w' ⟨rfl, rfl⟩) | (go_at_call 63; ((with_reducible refine (isPixel_any _ _).mono ?_)); rintro e w' ⟨rfl, rfl⟩))
    go_ret
    exact ⟨ret_bool (by have := HN.out; rw [← L.out] at this; simp [Pl.imageOk, this]), by go_grown⟩
  have hb : ((n : Int) != W * H) = false := by simpa using hn
  have HE := Lib.hid (Pl.imageOk_all hW hH (by rw [L.out]; exact hn))
  clear hn
  go_enter Try.func32, Try.ntmps32
  go_wp2_with (first | (go_at_call 62; ((with_reducible refine (isSide_any _ _).mono ?_)); rintro e w' ⟨rfl, rfl⟩) | (go_at_call 63; ((with_reducible refine (isPixel_any _ _).mono ?_)); rintro e w' ⟨rfl, rfl⟩))
  go_loop [29] (fun i => ∃ k : Nat, k ≤ n ∧ i = .int .i64 k ∧ Hid ((zs.take k).all Pl.isPix = true)) (fun i => n - (intOf i).toNat)
  case atStart => exact ⟨0, Nat.zero_le _, rfl, by show _ = _; simp⟩
  case round =>
    obtain ⟨k, hk, rfl, HT⟩ := hrel
    by_cases hlt : k < n
    · obtain ⟨g, z, rfl, hg, e1, cc⟩ := G.out.gt hlt
      have E1 := Lib.hid e1
      clear e1
      cases hp : Pl.isPix z
      · go_wp2_with (first | (go_at_call 62; ((with_reducible refine (isSide_any _ _).mono ?_)); rintro e w' ⟨rfl, rfl⟩) | (go_at_call 63; ((with_reducible refine (isPixel_any _ _).mono ?_)); rintro e w' ⟨rfl, rfl⟩))
        go_ret
        exact ⟨ret_bool (by rw [HE.out, Pl.all_no E1.out hp]), by go_grown⟩
      · go_wp2_with (first | (go_at_call 62; ((with_reducible refine (isSide_any _ _).mono ?_)); rintro e w' ⟨rfl, rfl⟩) | (go_at_call 63; ((with_reducible refine (isPixel_any _ _).mono ?_)); rintro e w' ⟨rfl, rfl⟩))
        go_round
        case rel => exact ⟨k + 1, by omega, by go_num, Pl.all_take_snoc E1.out HT.out hp⟩
        case measure => simp [intOf]; omega
    · go_wp2_with (first | (go_at_call 62; ((with_reducible refine (isSide_any _ _).mono ?_)); rintro e w' ⟨rfl, rfl⟩) | (go_at_call 63; ((with_reducible refine (isPixel_any _ _).mono ?_)); rintro e w' ⟨rfl, rfl⟩))
      go_ret
      exact ⟨ret_bool (by rw [HE.out]; have := HT.out; rw [List.take_of_length_le (by rw [L.out]; omega)] at this; exact this.symm), by go_grown⟩
set_option maxHeartbeats 1000000 in
theorem implSameImage (W1 H1 W2 H2 : Int) (A1 A2 : Option Addr) (n m c1 c2 l1 h1 l2 h2 : Nat) (zs ys : List Int) (w : World) (I1 : Ints w l1 h1 (.slice A1 n c1) zs) (I2 : Ints w l2 h2 (.slice A2 m c2) ys) :
    Calls Try.prog 25 #[.agg #[.int .i64 W1, .int .i64 H1, .slice A1 n c1], .agg #[.int .i64 W2, .int .i64 H2, .slice A2 m c2]] w fun e w' => e = .returned (.bool (decide (Pl.Img.mk W1 H1 zs = Pl.Img.mk W2 H2 ys))) ∧ Below w.heap.size w w' := by
  have G1 := Lib.hid I1
  have G2 := Lib.hid I2
  clear I1 I2
  by_cases hW : W1 = W2
  case neg =>
    have hb : (W1 == W2) = false := by simpa using hW
    go_enter Try.func25, Try.ntmps25
    go_wp2_with fail
    go_ret
    exact ⟨ret_bool (by simp [hW]), by go_grown⟩
  subst hW
  by_cases hH : H1 = H2
  case neg =>
    have hb : (H1 == H2) = false := by simpa using hH
    go_enter Try.func25, Try.ntmps25
    go_wp2_with fail
    go_ret
    exact ⟨ret_bool (by simp [hH]), by go_grown⟩
  subst hH
  by_cases hz : zs = ys
  case pos =>
    have hd := Lib.hid (show decide (zs = ys) = true by simpa using hz)
    have HZ := Lib.hid hz
    clear hz
    go_enter Try.func25, Try.ntmps25
    go_wp2_with fail
    refine (slEqual_any _ _ _ _ _ _ l1 h1 l2 h2 zs ys _ (Own.alloc (Own.alloc G1.out _) _) (Own.alloc (Own.alloc G2.out _) _)).mono ?_
    rw [hd.out]
    rintro e w1 ⟨rfl, hb1⟩
    have B1 : Below w.heap.size w w1 := later (by go_grown) hb1
    go_wp2_with fail
    go_ret
    exact ⟨ret_bool (by simp [HZ.out]), B1⟩
  case neg =>
    have hd := Lib.hid (show decide (zs = ys) = false by simpa using hz)
    have HZ := Lib.hid hz
    clear hz
    go_enter Try.func25, Try.ntmps25
    go_wp2_with fail
    refine (slEqual_any _ _ _ _ _ _ l1 h1 l2 h2 zs ys _ (Own.alloc (Own.alloc G1.out _) _) (Own.alloc (Own.alloc G2.out _) _)).mono ?_
    rw [hd.out]
    rintro e w1 ⟨rfl, hb1⟩
    have B1 : Below w.heap.size w w1 := later (by go_grown) hb1
    go_wp2_with fail
    go_ret
    exact ⟨ret_bool (by simp [HZ.out]), B1⟩
set_option maxHeartbeats 1000000 in
theorem sameImage_any (W1 H1 W2 H2 : Int) (A1 A2 : Option Addr) (n m c1 c2 l1 h1 l2 h2 : Nat) (zs ys : List Int) (w : World) (I1 : Ints w l1 h1 (.slice A1 n c1) zs) (I2 : Ints w l2 h2 (.slice A2 m c2) ys) :
    Calls Try.prog 26 #[.agg #[.int .i64 W1, .int .i64 H1, .slice A1 n c1], .agg #[.int .i64 W2, .int .i64 H2, .slice A2 m c2]] w fun e w' => e = .returned (.bool (decide (Pl.Img.mk W1 H1 zs = Pl.Img.mk W2 H2 ys))) ∧ Below w.heap.size w w' := by
  have G1 := Lib.hid I1
  have G2 := Lib.hid I2
  clear I1 I2
  by_cases hW : W1 = W2
  case neg =>
    have hb : (W1 == W2) = false := by simpa using hW
    go_enter Try.func26, Try.ntmps26
    go_wp2_with fail
    go_ret
    exact ⟨ret_bool (by simp [hW]), by go_grown⟩
  subst hW
  by_cases hH : H1 = H2
  case neg =>
    have hb : (H1 == H2) = false := by simpa using hH
    go_enter Try.func26, Try.ntmps26
    go_wp2_with fail
    go_ret
    exact ⟨ret_bool (by simp [hH]), by go_grown⟩
  subst hH
  by_cases hz : zs = ys
  case pos =>
    have hd := Lib.hid (show decide (zs = ys) = true by simpa using hz)
    have HZ := Lib.hid hz
    clear hz
    go_enter Try.func26, Try.ntmps26
    go_wp2_with fail
    refine (sameInts_any _ _ _ _ _ _ l1 h1 l2 h2 zs ys _ (Own.alloc (Own.alloc G1.out _) _) (Own.alloc (Own.alloc G2.out _) _)).mono ?_
    rw [hd.out]
    rintro e w1 ⟨rfl, hb1⟩
    have B1 : Below w.heap.size w w1 := later (by go_grown) hb1
    go_wp2_with fail
    go_ret
    exact ⟨ret_bool (by simp [HZ.out]), B1⟩
  case neg =>
    have hd := Lib.hid (show decide (zs = ys) = false by simpa using hz)
    have HZ := Lib.hid hz
    clear hz
    go_enter Try.func26, Try.ntmps26
    go_wp2_with fail
    refine (sameInts_any _ _ _ _ _ _ l1 h1 l2 h2 zs ys _ (Own.alloc (Own.alloc G1.out _) _) (Own.alloc (Own.alloc G2.out _) _)).mono ?_
    rw [hd.out]
    rintro e w1 ⟨rfl, hb1⟩
    have B1 : Below w.heap.size w w1 := later (by go_grown) hb1
    go_wp2_with fail
    go_ret
    exact ⟨ret_bool (by simp [HZ.out]), B1⟩
end Go.Proofs.Ytmjjepgnciibcaa
