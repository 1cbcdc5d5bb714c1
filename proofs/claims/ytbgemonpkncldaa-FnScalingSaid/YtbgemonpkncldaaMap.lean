/- Contracts: mapImage, and the program's functions that use it. -/
import Derived.Test.YtbgemonpkncldaaIm3
import Derived.Test.YtbgemonpkncldaaAcc
import Derived.Deep.RegionLaw
import Derived.Deep.QuietTactic
import Derived.BigQuiet
namespace Go.Proofs.Ytbgemonpkncldaa
open Go.RowKit
set_option linter.unusedVariables false
set_option maxHeartbeats 4000000 in
theorem mapTile (b1 X Y : Nat) (f : Nat → Nat → Int) (w : World) (x1 : 1 ≤ X) (x2 : X ≤ 16) (y1 : 1 ≤ Y) (y2 : Y ≤ 16)
    (HF : ∀ (x y : Nat) (wr : World), x < X → y < Y → Below w.heap.size w wr → Calls Try.prog 62 #[.int .i64 x, .int .i64 y, .pointer (some ⟨b1, 0, none⟩)] wr fun e w' => e = .returned (.int .i64 (f x y)) ∧ ∃ m, w' = wr.drewN m) :
    Calls Try.prog 61 #[.int .i64 X, .int .i64 Y, .func (.func 62) #[] #[.pointer (some ⟨b1, 0, none⟩)]] w (NewImg ⟨X, Y, Pl.tabTo X f (Y * X)⟩ w) := by
  have HFH := Lib.hid HF
  clear HF
  obtain ⟨i0, hi0, hz0, hz1, hz2⟩ := info_parts Try.infoInt
  have hm0 : X * Y ≤ 256 := by have := Nat.mul_le_mul x2 y2; omega
  have HM := Lib.hid (Int.natCast_mul X Y)
  go_enter Try.func61, Try.ntmps61
  go_wp2_with (at_make; refine wpList_make_own _ rfl _ _ 22 rfl (w.heap.size + 1) 3 i0 (.int .i64 0) 1 Try.underlying22 hi0 hz0 hz1 _ _ _ (X * Y) rfl rfl (by rw [HM.out]) (by rw [hz2]; omega) (by unfold maxLen; omega) (by simp) ?_)
  intro w1 hown hgrow
  have hlt0 : w.heap.size + 1 < w1.heap.size := (hown.lt _ rfl).2
  have hk0 : Below (w.heap.size + 1) (w.alloc (.cells #[.int .i64 0, .int .i64 0, .slice none 0 0] 27)) w1 := ⟨hgrow.os, hgrow.tape, hgrow.output, hgrow.size, fun k hk => hgrow.block k (by simp; omega) (by simp)⟩
  have ⟨kr, fr⟩ := keepc hk0 w.heap.size (by omega)
  have XR := Lib.hid (show Box w1 w.heap.size [.int .i64 0, .int .i64 0, .slice none 0 0] from ⟨by omega, fun o v hv => by
    rw [kr]
    match o, hv with
    | 0, hv => simp at hv; subst hv; simp [go_sem]
    | 1, hv => simp at hv; subst hv; simp [go_sem]
    | 2, hv => simp at hv; subst hv; simp [go_sem]⟩)
  have FR := Lib.hid (show ∀ o, w1.frozen? ⟨w.heap.size, o, none⟩ = false from fun o => by rw [fr]; simp [go_sem])
  have B1 : Below w.heap.size w w1 := (by go_grown : Below w.heap.size w (w.alloc (.cells #[.int .i64 0, .int .i64 0, .slice none 0 0] 27))).trans (hk0.mono (by omega))
  have A0 : AccE w1 (w1.alloc (.cells #[.int .i64 X, .int .i64 Y, .slice (some ⟨w.heap.size + 1, 0, none⟩) 0 (X * Y)] 27)) (w.heap.size + 1) w1.heap.size X Y [] := ⟨_, by simp [go_sem], by simp [go_sem], by simp [go_sem], by simp [go_sem], hown.alloc _, by simp [Value.ownBlock]; omega, by omega, by go_grown, by simp⟩
  clear hown hgrow kr fr hk0
  go_wp2_with fail
  go_loopw [18] (fun i wr => ∃ q : Nat, q ≤ Y ∧ i = .int .i64 q ∧ AccE w1 wr (w.heap.size + 1) w1.heap.size X Y (Pl.tabTo X f (q * X))) (fun i _ => Y - (intOf i).toNat)
  case atStart => exact ⟨0, by omega, rfl, by simpa [Pl.tabTo] using A0⟩
  case round =>
    clear A0
    obtain ⟨q, hq, rfl, hacc⟩ := hrel
    by_cases hlt : q < Y
    · obtain ⟨wo, rfl⟩ : ∃ wo : World, wo = wr := ⟨_, rfl⟩
      go_wp2_with fail
      go_loopw [22] (fun i wr => ∃ p : Nat, p ≤ X ∧ i = .int .i64 p ∧ AccE w1 wr (w.heap.size + 1) w1.heap.size X Y (Pl.tabTo X f (q * X + p))) (fun i _ => X - (intOf i).toNat)
      case atStart => exact ⟨0, by omega, rfl, by simpa using hacc⟩
      case round =>
        clear hacc
        obtain ⟨p, hp, rfl, hacc⟩ := hrel
        by_cases hlt2 : p < X
        · obtain ⟨v, hv⟩ := hacc
          have HAV := Lib.hid hv
          obtain ⟨v0, v1, v2, v3, v4, v5, v6, v7, v8⟩ := hv
          have OW := Lib.hid v4
          have NE := Lib.hid v5
          have BW : Below w.heap.size w wr := B1.trans (v7.mono (by omega))
          have PB := Lib.hid (Pl.place2 hlt hlt2 x2 y2)
          have vd : ∀ k o, ((wr.drewN k).alloc o).cell? ⟨w1.heap.size, 2, none⟩ = some v := fun k o => (cell_old (w := wr.drewN k) v8).trans v2
          clear v4 v5
          go_wp2_with fail
          go_region_law (first
            | (refine step_append_lies _ (by rfl) _ _ _ (by rfl) (w.heap.size + 1) 3 i0 (.int .i64 0) 1 8 Try.underlying22 hi0 hz0 hz1 hz2 rfl (by decide) v (Pl.tabTo X f (q * X + p)).length _ (by rfl) (own_da OW.out) ⟨wr.heap.size, 0, none⟩ 1 1 [.int .i64 (f p q)] (by rfl) (by rfl) news_da (one_one _) (by omega) (by rw [Pl.tabTo_length]; unfold maxLen; have := PB.out.1; omega) (by rw [Pl.tabTo_length]; have := PB.out.1; omega) (by simp; omega) (wr.heap.size + 1) (by simp) ?_; intro gg cap w2 hown2 hgrow2 hat2 hlt7; have ⟨cb2, fb2⟩ := HAV.out.after below_da hgrow2)
            | (go_simp; go_at_call 62; refine (HFH.out p q _ hlt2 hlt (below_drewN BW _)).mono ?_; rintro e w' ⟨rfl, m, rfl⟩)
            | (go_simp; go_at_call 62; refine (HFH.out p q _ hlt2 hlt (Below.drew BW)).mono ?_; rintro e w' ⟨rfl, m, rfl⟩))
          all_goals
            clear cb2 fb2 vd
            go_wp2_with fail
            have PU := HAV.out.push below_da hown2 hgrow2 hat2 (by omega)
            rw [Pl.tabTo_snoc _ hlt2] at PU
            go_roundw
            case rel => exact ⟨p + 1, by omega, by go_num, PU⟩
            case measure => simp [intOf]; omega
        · obtain rfl : p = X := by omega
          go_wp2_with fail
          go_roundw
          case rel => exact ⟨q + 1, by omega, by go_num, by rw [Nat.add_mul, Nat.one_mul]; exact hacc⟩
          case measure => simp [intOf]; omega
    · obtain rfl : q = Y := by omega
      obtain ⟨v, hv⟩ := hacc
      obtain ⟨v0, v1, v2, v3, v4, v5, v6, v7, v8⟩ := hv
      obtain ⟨A1, c1, rfl, _⟩ := (Own.of_row v4).shape
      have OW := Lib.hid v4
      have NE := Lib.hid v5
      clear v4 v5
      have ⟨qr0, qr1, qr2, qr3⟩ := (XR.out.below v7 (by omega)).open3
      have fr0 : wr.frozen? ⟨w.heap.size, 0, none⟩ = false := (v7.frozen (p := ⟨w.heap.size, 0, none⟩) (by simp)).trans (FR.out 0)
      have fr1 : wr.frozen? ⟨w.heap.size, 1, none⟩ = false := (v7.frozen (p := ⟨w.heap.size, 1, none⟩) (by simp)).trans (FR.out 1)
      have fr2 : wr.frozen? ⟨w.heap.size, 2, none⟩ = false := (v7.frozen (p := ⟨w.heap.size, 2, none⟩) (by simp)).trans (FR.out 2)
      have B2 : Below w.heap.size w wr := B1.trans (v7.mono (by omega))
      go_wp2_with fail
      refine bodyPost_ret (v := .agg #[.int .i64 (X : Int), .int .i64 (q : Int), .slice A1 (Pl.tabTo X f (q * X)).length c1]) (by simp [results, Try.results61, go_sem, qr1, qr2, qr3]) rfl ?_
      refine ⟨A1, c1, rfl, ?_, by go_grown⟩
      have h := Own.far (Own.far (Own.far (Own.of_row OW.out) (p := ⟨w.heap.size, 0, none⟩) (.inl (by simp)) (.int .i64 X)) (p := ⟨w.heap.size, 1, none⟩) (.inl (by simp)) (.int .i64 q)) (p := ⟨w.heap.size, 2, none⟩) (.inl (by simp)) (.slice A1 (Pl.tabTo X f (q * X)).length c1)
      exact Own.mono h (by omega) (by simp [World.setCell]) (by simp [World.setCell])
end Go.Proofs.Ytbgemonpkncldaa
