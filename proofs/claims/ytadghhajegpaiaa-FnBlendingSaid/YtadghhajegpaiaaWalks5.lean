/- The laws FnClamped and FnBlending: each returns true. -/
import Derived.Test.YtadghhajegpaiaaDr
import Derived.Test.YtadghhajegpaiaaOri
import Derived.Test.YtadghhajegpaiaaAt
import Derived.Test.YtadghhajegpaiaaBlend
import Derived.Lib.MinMax
namespace Go.Proofs.Ytadghhajegpaiaa.Pl
theorem mix_between (a b t : Int) (a0 : 0 ≤ a) (a1 : a ≤ 255) (b0 : 0 ≤ b) (b1 : b ≤ 255) (t0 : 0 ≤ t) (t1 : t ≤ 255) : min a b - 1 ≤ part a t + part b (255 - t) ∧ part a t + part b (255 - t) ≤ max a b + 1 := by
  rw [part_nn a0 a1 t0 t1, part_nn b0 b1 (by omega) (by omega)]
  have h1 : min a b * t ≤ a * t := Int.mul_le_mul_of_nonneg_right (by omega) t0
  have h2 : min a b * (255 - t) ≤ b * (255 - t) := Int.mul_le_mul_of_nonneg_right (by omega) (by omega)
  have h3 : a * t ≤ max a b * t := Int.mul_le_mul_of_nonneg_right (by omega) t0
  have h4 : b * (255 - t) ≤ max a b * (255 - t) := Int.mul_le_mul_of_nonneg_right (by omega) (by omega)
  have e1 := Int.mul_sub (min a b) 255 t
  have e2 := Int.mul_sub (max a b) 255 t
  rw [e1] at h2
  rw [e2] at h4
  generalize min a b * t = s1 at *
  generalize max a b * t = s2 at *
  generalize a * t = u at *
  generalize b * (255 - t) = v at *
  omega
theorem over_val {t b : Int} (h1 : isPix t = true) (h2 : isPix b = true) : over t b = ((255 * 256 + mix t b 1) * 256 + mix t b 2) * 256 + mix t b 3 := by simp only [over, h1, h2, Bool.and_self, if_true]
theorem chan_over {t b : Int} (h1 : isPix t = true) (h2 : isPix b = true) : chan (over t b) 0 = 255 ∧ chan (over t b) 1 = mix t b 1 ∧ chan (over t b) 2 = mix t b 2 ∧ chan (over t b) 3 = mix t b 3 := by
  have a1 := mix_le t b 1; have a2 := mix_le t b 2; have a3 := mix_le t b 3
  rw [over_val h1 h2]
  generalize mix t b 1 = m1 at *
  generalize mix t b 2 = m2 at *
  generalize mix t b 3 = m3 at *
  simp only [chan]
  refine ⟨by simp; omega, by simp; omega, by simp; omega, by simp; omega⟩
theorem chan_make {x y z q : Int} (hx : 0 ≤ x ∧ x ≤ 255) (hy : 0 ≤ y ∧ y ≤ 255) (hz : 0 ≤ z ∧ z ≤ 255) (hq : 0 ≤ q ∧ q ≤ 255) : isPix (makePixel x y z q) = true ∧ chan (makePixel x y z q) 0 = x ∧ chan (makePixel x y z q) 1 = y ∧ chan (makePixel x y z q) 2 = z ∧ chan (makePixel x y z q) 3 = q ∧ makePixel x y z q = x * 16777216 + y * 65536 + z * 256 + q := by
  have e : makePixel x y z q = x * 16777216 + y * 65536 + z * 256 + q := by simp only [makePixel, inB_mk hx, inB_mk hy, inB_mk hz, inB_mk hq, Bool.and_self, if_true]
  rw [e]
  refine ⟨inB_mk (by omega), ?_, ?_, ?_, ?_, rfl⟩ <;> simp [chan] <;> omega
theorem part_full {a : Int} (h : 0 ≤ a ∧ a ≤ 255) : part a 255 = a := by rw [part_nn h.1 h.2 (by omega) (by omega)]; omega
theorem part_zero {a : Int} (h : 0 ≤ a ∧ a ≤ 255) : part a 0 = 0 := by rw [part_nn h.1 h.2 (by omega) (by omega)]; omega
/-- The opaque pixel of p's colors. -/
def solid (p : Int) : Int := makePixel 255 (chan p 1) (chan p 2) (chan p 3)
theorem solid_spec (p : Int) : isPix (solid p) = true ∧ chan (solid p) 0 = 255 ∧ chan (solid p) 1 = chan p 1 ∧ chan (solid p) 2 = chan p 2 ∧ chan (solid p) 3 = chan p 3 ∧ solid p = 255 * 16777216 + chan p 1 * 65536 + chan p 2 * 256 + chan p 3 :=
  chan_make ⟨by omega, by omega⟩ (chan_bd p 1) (chan_bd p 2) (chan_bd p 3)
theorem over_solid (p q : Int) (hq : isPix q = true) : over (solid p) q = solid p := by
  obtain ⟨h0, h1, h2, h3, h4, h5⟩ := solid_spec p
  have e : ∀ k, chan (solid p) k = chan p k → mix (solid p) q k = chan p k := fun k hk => by
    unfold mix
    rw [hk, h1, part_full (chan_bd p k), show (255 : Int) - 255 = 0 by omega, part_zero (chan_bd q k)]
    omega
  rw [over_val h0 hq, e 1 h2, e 2 h3, e 3 h4, h5]
  omega
theorem fade_full {p : Int} (hp : isPix p = true) : fade p 255 = p := by
  have := inB_t hp
  have hb := chan_bd p 0
  simp only [fade, hp, show inB 255 0 255 = true by decide, Bool.and_self, if_true]
  rw [part_full hb]
  simp only [chan, if_pos]
  omega
theorem over_clear {p q : Int} (hp : isPix p = true) : over (fade p 0) (solid q) = solid q := by
  have hi := inB_t hp
  have hb := chan_bd p 0
  have ef : fade p 0 = p % 16777216 := by
    simp only [fade, hp, show inB 0 0 255 = true by decide, Bool.and_self, if_true]
    rw [part_zero hb]
    omega
  rw [ef]
  have hf : isPix (p % 16777216) = true := inB_mk (by omega)
  have h0 : chan (p % 16777216) 0 = 0 := by simp only [chan, if_pos]; omega
  obtain ⟨s0, s1, s2, s3, s4, s5⟩ := solid_spec q
  have e : ∀ k, chan (solid q) k = chan q k → mix (p % 16777216) (solid q) k = chan q k := fun k hk => by
    unfold mix
    rw [h0, hk, part_zero (chan_bd _ k), show (255 : Int) - 0 = 255 by omega, part_full (chan_bd q k)]
    omega
  rw [over_val hf s0, e 1 s2, e 2 s3, e 3 s4, s5]
  omega
theorem channelOf_ok {p k : Int} (hp : isPix p = true) (hk : inB k 0 3 = true) : channelOf p k = chan p k := by simp only [channelOf, hp, hk, Bool.and_self, if_true]
theorem blend_two {p q : Int} (hp : isPix p = true) (hq : isPix q = true) : blend [p, solid p] q = solid p := by
  obtain ⟨s0, _⟩ := solid_spec p
  simp only [blend, List.all_cons, List.all_nil, hp, s0, hq, Bool.and_self, if_true, stack, List.foldl_cons, List.foldl_nil]
  exact over_solid p _ (over_ok hp hq)
theorem mixk (p q k : Int) : min (chan p k) (chan q k) - 1 ≤ mix p q k ∧ mix p q k ≤ max (chan p k) (chan q k) + 1 :=
  mix_between _ _ _ (chan_bd p k).1 (chan_bd p k).2 (chan_bd q k).1 (chan_bd q k).2 (chan_bd p 0).1 (chan_bd p 0).2
end Go.Proofs.Ytadghhajegpaiaa.Pl
namespace Go.Proofs.Ytadghhajegpaiaa
open Go.RowKit
set_option linter.unusedVariables false
theorem isRow_len {w : World} {a : Option Addr} {len cap : Nat} {zs : List Int} (hr : IsRow .u8 w a len cap zs) : len ≤ 9223372036854775807 := by
  rcases hr with ⟨rfl, rfl, rfl, rfl⟩ | ⟨x, rfl, hl, hm, _⟩
  · omega
  · unfold maxLen at hm; omega
set_option maxHeartbeats 1000000 in
theorem walkFnClamped (a : Option Addr) (len cap : Nat) (z : List Int) (w : World) (hr : IsRow .u8 w a len cap z) : Calls Try.prog 13 #[.slice a len cap] w fun e w' => e = .returned (.bool true) ∧ Below w.heap.size w w' := by
  have hl := isRow_len hr
  by_cases hbig : 1048576 < len
  · go_enter Try.func13, Try.ntmps13
    go_wp2_with fail
    refine (big_any _ _ _ _ hl).mono ?_
    rintro e w' ⟨rfl, rfl⟩
    go_wp2_with fail
    go_ret
    exact ⟨rfl, Below.refl _ _⟩
  · have HR := Lib.hid hr
    have C5 := Lib.hid (show Pl.clamp 7 3 5 = 5 by decide)
    clear hr
    go_enter Try.func13, Try.ntmps13
    go_wp2_with fail
    refine (big_any _ _ _ _ hl).mono ?_
    rintro e w' ⟨rfl, rfl⟩
    go_wp2_with fail
    refine (drawClamp a len cap z _ HR.out (by omega)).mono ?_
    rintro e w1 ⟨n, p, q, ⟨n0, n1⟩, ⟨p0, p1⟩, ⟨q0, q1⟩, rfl, hb1⟩
    by_cases hqp : q < p
    · have E := Lib.hid (show Pl.clamp n p q = p by unfold Pl.clamp; rw [if_pos (.inl hqp)])
      go_wp2_with (first | (go_at_call 44; ((with_reducible refine (implClamp 7 3 5 _).mono ?_)); rintro e w' ⟨rfl, rfl⟩; rw [C5.out]) | (go_at_call 44; ((with_reducible refine (implClamp n p q _).mono ?_)); rintro e w' ⟨rfl, rfl⟩; rw [E.out]))
      go_ret
      exact ⟨rfl, hb1⟩
    · by_cases hnp : n < p
      · have E := Lib.hid (show Pl.clamp n p q = p by unfold Pl.clamp; rw [if_pos (.inr hnp)])
        have E2 := Lib.hid (show Pl.clamp p p q = p by unfold Pl.clamp; rw [if_neg (by omega), if_neg (by omega)])
        go_wp2_with (first | (go_at_call 44; ((with_reducible refine (implClamp 7 3 5 _).mono ?_)); rintro e w' ⟨rfl, rfl⟩; rw [C5.out]) | (go_at_call 44; ((with_reducible refine (implClamp n p q _).mono ?_)); rintro e w' ⟨rfl, rfl⟩; rw [E.out]) | (go_at_call 44; ((with_reducible refine (implClamp p p q _).mono ?_)); rintro e w' ⟨rfl, rfl⟩; rw [E2.out]))
        go_ret
        exact ⟨rfl, hb1⟩
      · by_cases hnq : q < n
        · have E := Lib.hid (show Pl.clamp n p q = q by unfold Pl.clamp; rw [if_neg (by omega), if_pos hnq])
          have E2 := Lib.hid (show Pl.clamp q p q = q by unfold Pl.clamp; rw [if_neg (by omega), if_neg (by omega)])
          go_wp2_with (first | (go_at_call 44; ((with_reducible refine (implClamp 7 3 5 _).mono ?_)); rintro e w' ⟨rfl, rfl⟩; rw [C5.out]) | (go_at_call 44; ((with_reducible refine (implClamp n p q _).mono ?_)); rintro e w' ⟨rfl, rfl⟩; rw [E.out]) | (go_at_call 44; ((with_reducible refine (implClamp q p q _).mono ?_)); rintro e w' ⟨rfl, rfl⟩; rw [E2.out]))
          go_ret
          exact ⟨rfl, hb1⟩
        · have E := Lib.hid (show Pl.clamp n p q = n by unfold Pl.clamp; rw [if_neg (by omega), if_neg hnq])
          go_wp2_with (first | (go_at_call 44; ((with_reducible refine (implClamp 7 3 5 _).mono ?_)); rintro e w' ⟨rfl, rfl⟩; rw [C5.out]) | (go_at_call 44; ((with_reducible refine (implClamp n p q _).mono ?_)); rintro e w' ⟨rfl, rfl⟩; rw [E.out]))
          go_ret
          exact ⟨rfl, hb1⟩
set_option maxHeartbeats 4000000 in
theorem walkFnBlending (a : Option Addr) (len cap : Nat) (z : List Int) (w : World) (hr : IsRow .u8 w a len cap z) : Calls Try.prog 10 #[.slice a len cap] w fun e w' => e = .returned (.bool true) ∧ Below w.heap.size w w' := by
  have hl := isRow_len hr
  by_cases hbig : 1048576 < len
  · go_enter Try.func10, Try.ntmps10
    go_wp2_with fail
    refine (big_any _ _ _ _ hl).mono ?_
    rintro e w' ⟨rfl, rfl⟩
    go_wp2_with fail
    go_ret
    exact ⟨rfl, Below.refl _ _⟩
  · have HR := Lib.hid hr
    clear hr
    go_enter Try.func10, Try.ntmps10
    go_wp2_with fail
    refine (big_any _ _ _ _ hl).mono ?_
    rintro e w' ⟨rfl, rfl⟩
    go_wp2_with fail
    refine (drawPixels a len cap z _ HR.out (by omega)).mono ?_
    rintro e w1 ⟨p, q, hp, hq, rfl, hb1⟩
    have HP := Lib.hid hp
    have HQ := Lib.hid hq
    have HO := Lib.hid (Pl.over_ok hp hq)
    have ⟨x0, x1, x2, x3⟩ := Pl.chan_over hp hq
    have X0 := Lib.hid x0
    have CH := Lib.hid (show ∀ k, Pl.inB k 0 3 = true → Pl.channelOf p k = Pl.chan p k ∧ Pl.channelOf q k = Pl.chan q k ∧ Pl.channelOf (Pl.over p q) k = Pl.chan (Pl.over p q) k from fun k hk => ⟨Pl.channelOf_ok hp hk, Pl.channelOf_ok hq hk, Pl.channelOf_ok HO.out hk⟩)
    have K1 := Pl.mixk p q 1
    have K2 := Pl.mixk p q 2
    have K3 := Pl.mixk p q 3
    rw [← x1] at K1
    rw [← x2] at K2
    rw [← x3] at K3
    obtain ⟨k10, k11⟩ := K1
    obtain ⟨k20, k21⟩ := K2
    obtain ⟨k30, k31⟩ := K3
    have ⟨a10, a11⟩ := Pl.chan_bd p 1
    have ⟨a20, a21⟩ := Pl.chan_bd p 2
    have ⟨a30, a31⟩ := Pl.chan_bd p 3
    have ⟨b10, b11⟩ := Pl.chan_bd q 1
    have ⟨b20, b21⟩ := Pl.chan_bd q 2
    have ⟨b30, b31⟩ := Pl.chan_bd q 3
    clear x0 x1 x2 x3 hp hq
    go_wp2_with (go_at_call 21; ((with_reducible refine (implOver _ _ _).mono ?_)); rintro e w' ⟨rfl, rfl⟩)
    refine wp_loop_rounds 4 ?_
    rw [rounds_succ]; go_wp2_with (first | (go_at_call 35; ((with_reducible refine (implChannelOf p _ _).mono ?_)); rintro e w' ⟨rfl, rfl⟩; rw [(CH.out _ (by decide)).1]) | (go_at_call 35; ((with_reducible refine (implChannelOf q _ _).mono ?_)); rintro e w' ⟨rfl, rfl⟩; rw [(CH.out _ (by decide)).2.1]) | (go_at_call 35; ((with_reducible refine (implChannelOf (Pl.over p q) _ _).mono ?_)); rintro e w' ⟨rfl, rfl⟩; rw [(CH.out _ (by decide)).2.2]))
    rw [rounds_succ]; go_wp2_with (first | (go_at_call 35; ((with_reducible refine (implChannelOf p _ _).mono ?_)); rintro e w' ⟨rfl, rfl⟩; rw [(CH.out _ (by decide)).1]) | (go_at_call 35; ((with_reducible refine (implChannelOf q _ _).mono ?_)); rintro e w' ⟨rfl, rfl⟩; rw [(CH.out _ (by decide)).2.1]) | (go_at_call 35; ((with_reducible refine (implChannelOf (Pl.over p q) _ _).mono ?_)); rintro e w' ⟨rfl, rfl⟩; rw [(CH.out _ (by decide)).2.2]))
    rw [rounds_succ]; go_wp2_with (first | (go_at_call 35; ((with_reducible refine (implChannelOf p _ _).mono ?_)); rintro e w' ⟨rfl, rfl⟩; rw [(CH.out _ (by decide)).1]) | (go_at_call 35; ((with_reducible refine (implChannelOf q _ _).mono ?_)); rintro e w' ⟨rfl, rfl⟩; rw [(CH.out _ (by decide)).2.1]) | (go_at_call 35; ((with_reducible refine (implChannelOf (Pl.over p q) _ _).mono ?_)); rintro e w' ⟨rfl, rfl⟩; rw [(CH.out _ (by decide)).2.2]))
    clear k10 k11 k20 k21 k30 k31 a10 a11 a20 a21 a30 a31 b10 b11 b20 b21 b30 b31
    rw [rounds_succ]; go_wp2_with (first | (go_at_call 35; ((with_reducible refine (implChannelOf p _ _).mono ?_)); rintro e w' ⟨rfl, rfl⟩; rw [(CH.out _ (by decide)).1]) | (go_at_call 35; ((with_reducible refine (implChannelOf q _ _).mono ?_)); rintro e w' ⟨rfl, rfl⟩; rw [(CH.out _ (by decide)).2.1]) | (go_at_call 35; ((with_reducible refine (implChannelOf (Pl.over p q) _ _).mono ?_)); rintro e w' ⟨rfl, rfl⟩; rw [(CH.out _ (by decide)).2.2]))
    refine (implMakePixel _ _ _ _ _).mono ?_
    rintro e w2 ⟨rfl, hb2⟩
    rw [show Pl.makePixel 255 (Pl.chan p 1) (Pl.chan p 2) (Pl.chan p 3) = Pl.solid p from rfl]
    have B2 : Below w.heap.size w w2 := later hb1 hb2
    go_wp2_with (first | (go_at_call 35; ((with_reducible refine (implChannelOf p _ _).mono ?_)); rintro e w' ⟨rfl, rfl⟩; rw [(CH.out _ (by decide)).1]) | (go_at_call 35; ((with_reducible refine (implChannelOf q _ _).mono ?_)); rintro e w' ⟨rfl, rfl⟩; rw [(CH.out _ (by decide)).2.1]) | (go_at_call 35; ((with_reducible refine (implChannelOf (Pl.over p q) _ _).mono ?_)); rintro e w' ⟨rfl, rfl⟩; rw [(CH.out _ (by decide)).2.2]))
    refine (implMakePixel _ _ _ _ _).mono ?_
    rintro e w3 ⟨rfl, hb3⟩
    rw [show Pl.makePixel 255 (Pl.chan q 1) (Pl.chan q 2) (Pl.chan q 3) = Pl.solid q from rfl]
    have B3 : Below w.heap.size w w3 := later B2 hb3
    have s3 := B3.size
    have t0 : (Pl.chan (Pl.over p q) 0 == 255) = true := by rw [X0.out]; rfl
    have t1 : (Pl.over (Pl.solid p) q == Pl.solid p) = true := by rw [Pl.over_solid p q HQ.out]; simp
    have t2 : (Pl.over (Pl.fade p 0) (Pl.solid q) == Pl.solid q) = true := by rw [Pl.over_clear HP.out]; simp
    have t3 : (Pl.fade p 255 == p) = true := by rw [Pl.fade_full HP.out]; simp
    have t4 : (Pl.blend [p, Pl.solid p] q == Pl.solid p) = true := by rw [Pl.blend_two HP.out HQ.out]; simp
    go_wp2_with (first | (first | (go_at_call 21; ((with_reducible refine (implOver _ _ _).mono ?_)); rintro e w' ⟨rfl, rfl⟩) | (go_at_call 16; ((with_reducible refine (implFade _ _ _).mono ?_)); rintro e w' ⟨rfl, rfl⟩)) | (go_at_call 35; ((with_reducible refine (implChannelOf (Pl.over p q) _ _).mono ?_)); rintro e w' ⟨rfl, rfl⟩; rw [(CH.out _ (by decide)).2.2]))
    refine (implBlend _ _ _ w3.heap.size (w3.heap.size + 1) [p, Pl.solid p] _ _ (Ints.lit w3 [p, Pl.solid p] (by simp))).mono ?_
    rintro e w' ⟨rfl, rfl⟩
    go_wp2_with fail
    go_ret
    exact ⟨rfl, by go_grown⟩
end Go.Proofs.Ytadghhajegpaiaa
