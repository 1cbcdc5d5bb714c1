/- Contracts over images: Scaled of the reference. -/
import Derived.Test.YtbgemonpkncldaaIm3
import Derived.Test.YtbgemonpkncldaaOrd
import Derived.Test.YtbgemonpkncldaaOri
import Derived.Deep.RegionLaw
namespace Go.Proofs.Ytbgemonpkncldaa
open Go.RowKit
set_option linter.unusedVariables false
set_option linter.unusedSimpArgs false
theorem Pl.scalePoint_in {f t k : Int} (hf : 1 ≤ f ∧ f ≤ 16) (ht : 1 ≤ t ∧ t ≤ 16) (hk : 0 ≤ k ∧ k < t) : 0 ≤ Pl.scalePoint f t k ∧ Pl.scalePoint f t k < f := by
  unfold Pl.scalePoint
  rw [Pl.inB_mk hf, Pl.inB_mk ht, Pl.inB_mk (n := k) (lo := 0) (hi := t - 1) (by omega)]
  simp only [Bool.and_self, if_true]
  have h0 : 0 ≤ k * f := Int.mul_nonneg hk.1 (by omega)
  refine ⟨Int.ediv_nonneg h0 (by omega), Int.ediv_lt_of_lt_mul (by omega) ?_⟩
  have h1 : (k + 1) * f ≤ t * f := Int.mul_le_mul_of_nonneg_right (by omega) (by omega)
  rw [Int.add_mul] at h1
  have e : f * t = t * f := Int.mul_comm _ _
  omega
set_option maxHeartbeats 4000000 in
theorem specScaled (W H : Int) (A : Option Addr) (n c lo hi : Nat) (zs : List Int) (x y : Int) (w : World) (HI : Ints w lo hi (.slice A n c) zs) :
    Calls Try.prog 29 #[.agg #[.int .i64 W, .int .i64 H, .slice A n c], .int .i64 x, .int .i64 y] w (NewImg (Pl.scaled ⟨W, H, zs⟩ x y) w) := by
  have bn := HI.bd
  have L := Lib.hid HI.len_eq
  have G := Lib.hid HI
  clear HI
  obtain ⟨i0, hi0, hz0, hz1, hz2⟩ := info_parts Try.infoInt
  cases hok : Pl.imageOk ⟨W, H, zs⟩
  case false =>
    have HV := Lib.hid (show Pl.Img.zero = Pl.scaled ⟨W, H, zs⟩ x y by simp [Pl.scaled, hok])
    go_enter Try.func29, Try.ntmps29
    go_wp2_with fail
    refine (specImageOk _ _ _ _ _ lo hi zs _ (G.out.step (by go_grown))).mono ?_
    rw [hok]
    rintro e w1 ⟨rfl, hb1⟩
    have ⟨k1, f1, y1⟩ := keep3 hb1 (w.heap.size + 1) (by simp)
    have B1 : Below w.heap.size w w1 := later (by go_grown) hb1
    go_wp2_with fail
    refine bodyPost_ret (v := .agg #[.int .i64 0, .int .i64 0, .slice none 0 0]) (by simp [results, Try.results29, go_sem, k1]) rfl ?_
    rw [← HV.out]
    exact ⟨none, 0, rfl, Own.nil _ _ _ _ _ (Nat.le_refl _), by go_grown⟩
  have hW := Pl.imageOk_t hok
  obtain ⟨⟨W1, W2⟩, ⟨H1, H2⟩, e3, _⟩ := hW
  simp only at W1 W2 H1 H2 e3
  rw [L.out] at e3
  have E3 := Lib.hid e3
  clear e3
  cases hx : Pl.inB x 1 16
  case false =>
    have HV := Lib.hid (show Pl.Img.zero = Pl.scaled ⟨W, H, zs⟩ x y by simp [Pl.scaled, hx])
    go_enter Try.func29, Try.ntmps29
    go_wp2_with fail
    refine (specImageOk _ _ _ _ _ lo hi zs _ (G.out.step (by go_grown))).mono ?_
    rw [hok]
    rintro e w1 ⟨rfl, hb1⟩
    have ⟨k1, f1, y1⟩ := keep3 hb1 (w.heap.size + 1) (by simp)
    have B1 : Below w.heap.size w w1 := later (by go_grown) hb1
    go_wp2_with (go_at_call 48; ((with_reducible refine (l01In_any _ _ _ _).mono ?_)); rintro e w' ⟨rfl, rfl⟩)
    refine bodyPost_ret (v := .agg #[.int .i64 0, .int .i64 0, .slice none 0 0]) (by simp [results, Try.results29, go_sem, k1]) rfl ?_
    rw [← HV.out]
    exact ⟨none, 0, rfl, Own.nil _ _ _ _ _ (Nat.le_refl _), by go_grown⟩
  cases hy : Pl.inB y 1 16
  case false =>
    have HV := Lib.hid (show Pl.Img.zero = Pl.scaled ⟨W, H, zs⟩ x y by simp [Pl.scaled, hy])
    go_enter Try.func29, Try.ntmps29
    go_wp2_with fail
    refine (specImageOk _ _ _ _ _ lo hi zs _ (G.out.step (by go_grown))).mono ?_
    rw [hok]
    rintro e w1 ⟨rfl, hb1⟩
    have ⟨k1, f1, y1⟩ := keep3 hb1 (w.heap.size + 1) (by simp)
    have B1 : Below w.heap.size w w1 := later (by go_grown) hb1
    go_wp2_with (go_at_call 48; ((with_reducible refine (l01In_any _ _ _ _).mono ?_)); rintro e w' ⟨rfl, rfl⟩)
    refine bodyPost_ret (v := .agg #[.int .i64 0, .int .i64 0, .slice none 0 0]) (by simp [results, Try.results29, go_sem, k1]) rfl ?_
    rw [← HV.out]
    exact ⟨none, 0, rfl, Own.nil _ _ _ _ _ (Nat.le_refl _), by go_grown⟩
  have ⟨x1, x2⟩ := Pl.inB_t hx
  have ⟨y1, y2⟩ := Pl.inB_t hy
  have HV := Lib.hid (show (⟨x, y, Pl.tab x y (Pl.scaleAt ⟨W, H, zs⟩ x y)⟩ : Pl.Img) = Pl.scaled ⟨W, H, zs⟩ x y by simp [Pl.scaled, hok, hx, hy])
  obtain ⟨X, rfl⟩ := Int.eq_ofNat_of_zero_le (show 0 ≤ x by omega)
  obtain ⟨Y, rfl⟩ := Int.eq_ofNat_of_zero_le (show 0 ≤ y by omega)
  go_enter Try.func29, Try.ntmps29
  go_wp2_with fail
  refine (specImageOk _ _ _ _ _ lo hi zs _ (G.out.step (by go_grown))).mono ?_
  rw [hok]
  rintro e w1 ⟨rfl, hb1⟩
  have XA := Lib.hid (Box.of3 hb1 w.heap.size (by simp; omega) (v0 := .int .i64 W) (v1 := .int .i64 H) (v2 := .slice A n c) (by simp [go_sem]) (by simp [go_sem]) (by simp [go_sem]))
  have ⟨k1, f1, z1⟩ := keep3 hb1 (w.heap.size + 1) (by simp)
  have XR := Lib.hid (Box.of3 hb1 (w.heap.size + 1) (by simp) (v0 := .int .i64 0) (v1 := .int .i64 0) (v2 := .slice none 0 0) (by simp [go_sem]) (by simp [go_sem]) (by simp [go_sem]))
  have fr : ∀ o, w1.frozen? ⟨w.heap.size + 1, o, none⟩ = false := fun o => by rw [f1]; simp [go_sem]
  have FR := Lib.hid fr
  have B1 : Below w.heap.size w w1 := later (by go_grown) hb1
  have s1 := B1.size
  have G1 := Lib.hid (G.out.step B1)
  clear k1 f1 hb1 fr
  go_wp2_with (go_at_call 48; ((with_reducible refine (l01In_any _ _ _ _).mono ?_)); rintro e w' ⟨rfl, rfl⟩)
  have A0 := Acc.start w1 X Y 27
  go_loopw [8] (fun i wr => ∃ q : Nat, q ≤ Y ∧ i = .int .i64 q ∧ Acc w1 wr w1.heap.size X Y (Pl.tabTo X (Pl.scaleAt ⟨W, H, zs⟩ X Y) (q * X))) (fun i _ => Y - (intOf i).toNat)
  case atStart => exact ⟨0, by omega, rfl, by simpa [Pl.tabTo] using A0⟩
  case round =>
    clear A0
    obtain ⟨q, hq, rfl, hacc⟩ := hrel
    by_cases hlt : q < Y
    · obtain ⟨wo, rfl⟩ : ∃ wo : World, wo = wr := ⟨_, rfl⟩
      go_wp2_with fail
      go_loopw [9] (fun i wr => ∃ p : Nat, p ≤ X ∧ i = .int .i64 p ∧ Acc w1 wr w1.heap.size X Y (Pl.tabTo X (Pl.scaleAt ⟨W, H, zs⟩ X Y) (q * X + p))) (fun i _ => X - (intOf i).toNat)
      case atStart => exact ⟨0, by omega, rfl, by simpa using hacc⟩
      case round =>
        clear hacc
        obtain ⟨p, hp, rfl, hacc⟩ := hrel
        by_cases hlt2 : p < X
        · obtain ⟨v, hv⟩ := hacc
          have HAV := Lib.hid hv
          obtain ⟨v0, v1, v2, v3, v4, v5, v6⟩ := hv
          have OW := Lib.hid v4
          clear v4
          have ⟨qa0, qa1, qa2, qa3⟩ := (XA.out.below v5 XA.out.1).open3
          obtain ⟨s0, s1⟩ := Pl.scalePoint_in (f := H) (t := Y) (k := q) ⟨H1, H2⟩ (by omega) (by omega)
          obtain ⟨t0, t1⟩ := Pl.scalePoint_in (f := W) (t := X) (k := p) ⟨W1, W2⟩ (by omega) (by omega)
          have ES : Pl.scaleAt ⟨W, H, zs⟩ X Y p q = Pl.ix zs (Pl.scalePoint H Y q * W + Pl.scalePoint W X p) := rfl
          obtain ⟨s, hs⟩ : ∃ s, s = Pl.scalePoint H Y q := ⟨_, rfl⟩
          obtain ⟨t, ht⟩ : ∃ t, t = Pl.scalePoint W X p := ⟨_, rfl⟩
          rw [← hs, ← ht] at ES
          rw [← hs] at s0 s1
          rw [← ht] at t0 t1
          have HS := Lib.hid hs
          have HT := Lib.hid ht
          clear hs ht
          have ⟨p1, p2, p3, p4⟩ := Pl.place ⟨W1, W2⟩ ⟨H1, H2⟩ (x := t) (y := s) ⟨t0, by omega⟩ ⟨s0, by omega⟩
          have p5 : s * W + t < (n : Int) := by rw [E3.out]; exact p2
          obtain ⟨ix, hixi⟩ := Int.eq_ofNat_of_zero_le p1
          have hix : (s * W + t).toNat = ix := by rw [hixi]; simp
          obtain ⟨g, z, rfl, hg, e1, cc⟩ := G1.out.gt (k := ix) (by omega)
          have cc' : wr.cell? ⟨g, (s * W + t).toNat, none⟩ = some (.int .i64 z) := by rw [hix]; exact (v5.cell (p := ⟨g, ix, none⟩) hg).trans cc
          have HZ := Lib.hid (show Pl.scaleAt ⟨W, H, zs⟩ X Y p q = z by rw [ES, hixi]; exact Pl.ix_get e1)
          clear e1 cc hix hixi ES
          have PB := Lib.hid (Pl.place2 hlt hlt2 (show X ≤ 16 by omega) (show Y ≤ 16 by omega))
          go_wp2_with fail
          have u3 : IntKind.i64.wrap (s * W) = s * W := IntWalk.i64_in _ ⟨by omega, by omega⟩
          have u4 : IntKind.i64.wrap (s * W + t) = s * W + t := IntWalk.i64_in _ ⟨by omega, by omega⟩
          have lt9 : w1.heap.size < wr.heap.size := by omega
          have lt8 : w.heap.size < wr.heap.size := by have := XA.out.1; omega
          have lt7 : g < wr.heap.size := by omega
          refine regionL (S := (fun w' => w'.cell? ⟨w1.heap.size, 2, none⟩ = some (v) ∧ w'.cell? ⟨w.heap.size, 0, none⟩ = some (.int .i64 W) ∧ w'.cell? ⟨w.heap.size, 1, none⟩ = some (.int .i64 H) ∧ w'.cell? ⟨w.heap.size, 2, none⟩ = some (.slice (some ⟨g, 0, none⟩) n c) ∧ w'.cell? ⟨g, (s * W + t).toNat, none⟩ = some (.int .i64 z))) (L := 23) (by kernel_rfl) ?_ (fun hHeld => ?_)
          · first | assumption | (refine ⟨?_, ?_, ?_, ?_, ?_⟩ <;> (first | assumption | (simp only [World.cell?_drew]; assumption) | (simp only [World.cell?_drew]; rw [cell_old (by assumption)]; assumption)))
          refine takeL (i := 0) (oi := ?_) (v := ?_) ?_ (by kernel_rfl) (by kernel_rfl) (by kernel_rfl) (by kernel_rfl) ?_ (Or.inl ⟨?_, ?_⟩) (by assumption) ?_
          rotate_left 2
          · (simp only [List.getElem?_toArray, List.getElem?_cons_succ, List.getElem?_cons_zero]; rfl)
          · exact fun _ _ _ h => h
          · rfl
          · (intro w hSw; (try dsimp only at hSw); go_simp; (try with_reducible rfl))
          try simp only [Act.put, List.setIfInBounds_toArray, List.set_cons_zero, List.set_cons_succ]
          refine takeL (i := 1) (oi := ?_) (v := ?_) ?_ (by kernel_rfl) (by kernel_rfl) (by kernel_rfl) (by kernel_rfl) ?_ (Or.inl ⟨?_, ?_⟩) (by assumption) ?_
          rotate_left 2
          · (simp only [List.getElem?_toArray, List.getElem?_cons_succ, List.getElem?_cons_zero]; rfl)
          · exact fun _ _ _ h => h
          · rfl
          · (intro w hSw; (try dsimp only at hSw); go_simp; (try with_reducible rfl))
          try simp only [Act.put, List.setIfInBounds_toArray, List.set_cons_zero, List.set_cons_succ]
          refine takeL (i := 2) (oi := ?_) (v := ?_) ?_ (by kernel_rfl) (by kernel_rfl) (by kernel_rfl) (by kernel_rfl) ?_ (Or.inl ⟨?_, ?_⟩) (by assumption) ?_
          rotate_left 2
          · (simp only [List.getElem?_toArray, List.getElem?_cons_succ, List.getElem?_cons_zero]; rfl)
          · exact fun _ _ _ h => h
          · rfl
          · (intro w hSw; (try dsimp only at hSw); go_simp; (try with_reducible rfl))
          try simp only [Act.put, List.setIfInBounds_toArray, List.set_cons_zero, List.set_cons_succ]
          refine takeL (i := 3) (oi := ?_) (v := ?_) ?_ (by kernel_rfl) (by kernel_rfl) (by kernel_rfl) (by kernel_rfl) ?_ (Or.inl ⟨?_, ?_⟩) (by assumption) ?_
          rotate_left 2
          · (simp only [List.getElem?_toArray, List.getElem?_cons_succ, List.getElem?_cons_zero]; rfl)
          · exact fun _ _ _ h => h
          · rfl
          · (intro w hSw; (try dsimp only at hSw); go_simp; (try with_reducible rfl))
          try simp only [Act.put, List.setIfInBounds_toArray, List.set_cons_zero, List.set_cons_succ]
          refine takeL (i := 4) (oi := ?_) (v := ?_) ?_ (by kernel_rfl) (by kernel_rfl) (by kernel_rfl) (by kernel_rfl) ?_ (Or.inl ⟨?_, ?_⟩) (by assumption) ?_
          rotate_left 2
          · (simp only [List.getElem?_toArray, List.getElem?_cons_succ, List.getElem?_cons_zero]; rfl)
          · exact fun _ _ _ h => h
          · rfl
          · (intro w hSw; (try dsimp only at hSw); go_simp; (try with_reducible rfl))
          try simp only [Act.put, List.setIfInBounds_toArray, List.set_cons_zero, List.set_cons_succ]
          refine takeL (i := 5) (oi := ?_) (v := ?_) ?_ (by kernel_rfl) (by kernel_rfl) (by kernel_rfl) (by kernel_rfl) ?_ (Or.inl ⟨?_, ?_⟩) (by assumption) ?_
          rotate_left 2
          · (simp only [List.getElem?_toArray, List.getElem?_cons_succ, List.getElem?_cons_zero]; rfl)
          · exact fun _ _ _ h => h
          · rfl
          · (intro w hSw; (try dsimp only at hSw); go_simp; (try with_reducible rfl))
          try simp only [Act.put, List.setIfInBounds_toArray, List.set_cons_zero, List.set_cons_succ]
          refine takeL (i := 6) (oi := ?_) (v := ?_) ?_ (by kernel_rfl) (by kernel_rfl) (by kernel_rfl) (by kernel_rfl) ?_ (Or.inl ⟨?_, ?_⟩) (by assumption) ?_
          rotate_left 2
          · (simp only [List.getElem?_toArray, List.getElem?_cons_succ, List.getElem?_cons_zero]; rfl)
          · exact fun _ _ _ h => h
          · rfl
          · (intro w hSw; (try dsimp only at hSw); go_simp; (try with_reducible rfl))
          try simp only [Act.put, List.setIfInBounds_toArray, List.set_cons_zero, List.set_cons_succ]
          refine takeL (i := 7) (oi := ?_) (v := ?_) ?_ (by kernel_rfl) (by kernel_rfl) (by kernel_rfl) (by kernel_rfl) ?_ (Or.inl ⟨?_, ?_⟩) (by assumption) ?_
          rotate_left 2
          · (simp only [List.getElem?_toArray, List.getElem?_cons_succ, List.getElem?_cons_zero]; rfl)
          · exact fun _ _ _ h => h
          · rfl
          · (intro w hSw; (try dsimp only at hSw); go_simp; (try with_reducible rfl))
          try simp only [Act.put, List.setIfInBounds_toArray, List.set_cons_zero, List.set_cons_succ]
          refine takeL (i := 9) (oi := ?_) (v := ?_) ?_ (by kernel_rfl) (by kernel_rfl) (by kernel_rfl) (by kernel_rfl) ?_ (Or.inl ⟨?_, ?_⟩) (by assumption) ?_
          rotate_left 2
          · (simp only [List.getElem?_toArray, List.getElem?_cons_succ, List.getElem?_cons_zero]; rfl)
          · exact fun _ _ _ h => h
          · rfl
          · (intro w hSw; (try dsimp only at hSw); go_simp; (try with_reducible rfl))
          try simp only [Act.put, List.setIfInBounds_toArray, List.set_cons_zero, List.set_cons_succ]
          refine takeL (i := 10) (oi := ?_) (v := ?_) ?_ (by kernel_rfl) (by kernel_rfl) (by kernel_rfl) (by kernel_rfl) ?_ (Or.inl ⟨?_, ?_⟩) (by assumption) ?_
          rotate_left 2
          · (simp only [List.getElem?_toArray, List.getElem?_cons_succ, List.getElem?_cons_zero]; rfl)
          · exact fun _ _ _ h => h
          · rfl
          · (intro w hSw; (try dsimp only at hSw); go_simp; (try with_reducible rfl))
          try simp only [Act.put, List.setIfInBounds_toArray, List.set_cons_zero, List.set_cons_succ]
          refine takeL (i := 12) (oi := ?_) (v := ?_) ?_ (by kernel_rfl) (by kernel_rfl) (by kernel_rfl) (by kernel_rfl) ?_ (Or.inl ⟨?_, ?_⟩) (by assumption) ?_
          rotate_left 2
          · (simp only [List.getElem?_toArray, List.getElem?_cons_succ, List.getElem?_cons_zero]; rfl)
          · exact fun _ _ _ h => h
          · rfl
          · (intro w hSw; (try dsimp only at hSw); go_simp; (try with_reducible rfl))
          try simp only [Act.put, List.setIfInBounds_toArray, List.set_cons_zero, List.set_cons_succ]
          refine takeL (i := 13) (oi := ?_) (v := ?_) ?_ (by kernel_rfl) (by kernel_rfl) (by kernel_rfl) (by kernel_rfl) ?_ (Or.inl ⟨?_, ?_⟩) (by assumption) ?_
          rotate_left 2
          · (simp only [List.getElem?_toArray, List.getElem?_cons_succ, List.getElem?_cons_zero]; rfl)
          · exact fun _ _ _ h => h
          · rfl
          · (intro w hSw; (try dsimp only at hSw); go_simp; (try with_reducible rfl))
          try simp only [Act.put, List.setIfInBounds_toArray, List.set_cons_zero, List.set_cons_succ]
          refine takeL (i := 14) (oi := ?_) (v := ?_) ?_ (by kernel_rfl) (by kernel_rfl) (by kernel_rfl) (by kernel_rfl) ?_ (Or.inl ⟨?_, ?_⟩) (by assumption) ?_
          rotate_left 2
          · (simp only [List.getElem?_toArray, List.getElem?_cons_succ, List.getElem?_cons_zero]; rfl)
          · exact fun _ _ _ h => h
          · rfl
          · (intro w hSw; (try dsimp only at hSw); go_simp; (try with_reducible rfl))
          try simp only [Act.put, List.setIfInBounds_toArray, List.set_cons_zero, List.set_cons_succ]
          refine takeL (i := 15) (oi := ?_) (v := ?_) ?_ (by kernel_rfl) (by kernel_rfl) (by kernel_rfl) (by kernel_rfl) ?_ (Or.inl ⟨?_, ?_⟩) (by assumption) ?_
          rotate_left 2
          · (simp only [List.getElem?_toArray, List.getElem?_cons_succ, List.getElem?_cons_zero]; rfl)
          · exact fun _ _ _ h => h
          · rfl
          · (intro w hSw; (try dsimp only at hSw); go_simp; (try with_reducible rfl))
          try simp only [Act.put, List.setIfInBounds_toArray, List.set_cons_zero, List.set_cons_succ]
          refine readyL (rs := [8]) (by kernel_rfl) (by simp) ?_
          refine AllReadyL.cons (o := ?_) ?_ (fun K hK => ?_) AllReadyL.none_
          rotate_left
          · (simp only [List.getElem?_toArray, List.getElem?_cons_succ, List.getElem?_cons_zero]; rfl)
          go_simp
          go_at_call 63
          ((with_reducible refine (specScalePoint H Y q _).mono ?_))
          rw [← HS.out]
          rintro e w' ⟨rfl, rfl⟩
          refine hK.out _ _ ?_ (fun hHeld => ?_)
          · first | assumption | (refine ⟨?_, ?_, ?_, ?_, ?_⟩ <;> (first | assumption | (simp only [World.cell?_drew]; assumption) | (simp only [World.cell?_drew]; rw [cell_old (by assumption)]; assumption)))
          clear hK K
          try simp only [Act.put, List.setIfInBounds_toArray, List.set_cons_zero, List.set_cons_succ]
          refine takeL (i := 11) (oi := ?_) (v := ?_) ?_ (by kernel_rfl) (by kernel_rfl) (by kernel_rfl) (by kernel_rfl) ?_ (Or.inl ⟨?_, ?_⟩) (by assumption) ?_
          rotate_left 2
          · (simp only [List.getElem?_toArray, List.getElem?_cons_succ, List.getElem?_cons_zero]; rfl)
          · exact fun _ _ _ h => h
          · rfl
          · (intro w hSw; (try dsimp only at hSw); go_simp; (try with_reducible rfl))
          try simp only [Act.put, List.setIfInBounds_toArray, List.set_cons_zero, List.set_cons_succ]
          refine readyL (rs := [16]) (by kernel_rfl) (by simp) ?_
          refine AllReadyL.cons (o := ?_) ?_ (fun K hK => ?_) AllReadyL.none_
          rotate_left
          · (simp only [List.getElem?_toArray, List.getElem?_cons_succ, List.getElem?_cons_zero]; rfl)
          go_simp
          go_at_call 63
          ((with_reducible refine (specScalePoint W X p _).mono ?_))
          rw [← HT.out]
          rintro e w' ⟨rfl, rfl⟩
          refine hK.out _ _ ?_ (fun hHeld => ?_)
          · first | assumption | (refine ⟨?_, ?_, ?_, ?_, ?_⟩ <;> (first | assumption | (simp only [World.cell?_drew]; assumption) | (simp only [World.cell?_drew]; rw [cell_old (by assumption)]; assumption)))
          clear hK K
          try simp only [Act.put, List.setIfInBounds_toArray, List.set_cons_zero, List.set_cons_succ]
          refine takeL (i := 17) (oi := ?_) (v := ?_) ?_ (by kernel_rfl) (by kernel_rfl) (by kernel_rfl) (by kernel_rfl) ?_ (Or.inl ⟨?_, ?_⟩) (by assumption) ?_
          rotate_left 2
          · (simp only [List.getElem?_toArray, List.getElem?_cons_succ, List.getElem?_cons_zero]; rfl)
          · exact fun _ _ _ h => h
          · rfl
          · (intro w hSw; (try dsimp only at hSw); go_simp; (try with_reducible rfl))
          try simp only [Act.put, List.setIfInBounds_toArray, List.set_cons_zero, List.set_cons_succ]
          refine takeL (i := 18) (oi := ?_) (v := ?_) ?_ (by kernel_rfl) (by kernel_rfl) (by kernel_rfl) (by kernel_rfl) ?_ (Or.inl ⟨?_, ?_⟩) (by assumption) ?_
          rotate_left 2
          · (simp only [List.getElem?_toArray, List.getElem?_cons_succ, List.getElem?_cons_zero]; rfl)
          · exact fun _ _ _ h => h
          · rfl
          · (intro w hSw; (try dsimp only at hSw); go_simp; (try with_reducible rfl))
          try simp only [Act.put, List.setIfInBounds_toArray, List.set_cons_zero, List.set_cons_succ]
          refine takeL (i := 19) (oi := ?_) (v := ?_) ?_ (by kernel_rfl) (by kernel_rfl) (by kernel_rfl) (by kernel_rfl) ?_ (Or.inl ⟨?_, ?_⟩) (by assumption) ?_
          rotate_left 2
          · (simp only [List.getElem?_toArray, List.getElem?_cons_succ, List.getElem?_cons_zero]; rfl)
          · exact fun _ _ _ h => h
          · rfl
          · (intro w hSw; (try dsimp only at hSw); go_simp; (try with_reducible rfl))
          try simp only [Act.put, List.setIfInBounds_toArray, List.set_cons_zero, List.set_cons_succ]
          refine readyL (rs := [20]) (by kernel_rfl) (by simp) ?_
          refine AllReadyL.cons (o := ?_) ?_ (fun K hK => ?_) AllReadyL.none_
          rotate_left
          · (simp only [List.getElem?_toArray, List.getElem?_cons_succ, List.getElem?_cons_zero]; rfl)
          go_simp
          refine hK.out _ _ ?_ (fun hHeld => ?_)
          · first | assumption | (refine ⟨?_, ?_, ?_, ?_, ?_⟩ <;> (first | assumption | (simp only [World.cell?_drew]; assumption) | (simp only [World.cell?_drew]; rw [cell_old (by assumption)]; assumption)))
          clear hK K
          try simp only [Act.put, List.setIfInBounds_toArray, List.set_cons_zero, List.set_cons_succ]
          refine readyL (rs := [21]) (by kernel_rfl) (by simp) ?_
          refine AllReadyL.cons (o := ?_) ?_ (fun K hK => ?_) AllReadyL.none_
          rotate_left
          · (simp only [List.getElem?_toArray, List.getElem?_cons_succ, List.getElem?_cons_zero]; rfl)
          refine step_append_lies _ (by rfl) _ _ _ (by rfl) (w1.heap.size + 1) 3 i0 (.int .i64 0) 1 8 Try.underlying22 hi0 hz0 hz1 hz2 rfl (by decide) v (Pl.tabTo X (Pl.scaleAt ⟨W, H, zs⟩ X Y) (q * X + p)).length _ (by rfl) ((OW.out.alloc _).drew) ⟨wr.heap.size, 0, none⟩ 1 1 [.int .i64 z] (by rfl) (by rfl) (World.news_of_block (cs := #[.int .i64 z]) (t := 3) (fr := (0, 0)) (heap_alloc_new wr _)) (one_one _) (by omega) (by rw [Pl.tabTo_length]; unfold maxLen; have := PB.out.1; omega) (by rw [Pl.tabTo_length]; have := PB.out.1; omega) (by simp; omega) (wr.heap.size + 1) (by simp) ?_
          intro gg cap w2 hown2 hgrow2 hat2 hlt7
          have hk2 := grown_keep ((OW.out.alloc _).drew) hgrow2 (by simp; omega)
          have d0 := (hk2.cell (p := ⟨w1.heap.size, 2, none⟩) (by show w1.heap.size < w1.heap.size + 1; omega)).trans (show _ = some (v) by simp only [World.cell?_drew]; rw [cell_old (by assumption)]; assumption); have d1 := (hk2.cell (p := ⟨w.heap.size, 0, none⟩) (by show w.heap.size < w1.heap.size + 1; omega)).trans (show _ = some (.int .i64 W) by simp only [World.cell?_drew]; rw [cell_old (by assumption)]; assumption); have d2 := (hk2.cell (p := ⟨w.heap.size, 1, none⟩) (by show w.heap.size < w1.heap.size + 1; omega)).trans (show _ = some (.int .i64 H) by simp only [World.cell?_drew]; rw [cell_old (by assumption)]; assumption); have d3 := (hk2.cell (p := ⟨w.heap.size, 2, none⟩) (by show w.heap.size < w1.heap.size + 1; omega)).trans (show _ = some (.slice (some ⟨g, 0, none⟩) n c) by simp only [World.cell?_drew]; rw [cell_old (by assumption)]; assumption); have d4 := (hk2.cell (p := ⟨g, (s * W + t).toNat, none⟩) (by show g < w1.heap.size + 1; omega)).trans (show _ = some (.int .i64 z) by simp only [World.cell?_drew]; rw [cell_old (by assumption)]; assumption)
          have fz : w2.frozen? ⟨w1.heap.size, 2, none⟩ = false := (hk2.frozen (p := ⟨w1.heap.size, 2, none⟩) (by simp)).trans (by show (wr.alloc _).frozen? _ = _; rw [frozen_old (by assumption)]; assumption)
          refine hK.out _ _ ?_ (fun hHeld => ?_)
          · first | assumption | (refine ⟨?_, ?_, ?_, ?_, ?_⟩ <;> (first | assumption | (simp only [World.cell?_drew]; assumption) | (simp only [World.cell?_drew]; rw [cell_old (by assumption)]; assumption)))
          clear hK K
          try simp only [Act.put, List.setIfInBounds_toArray, List.set_cons_zero, List.set_cons_succ]
          refine takeL (i := 22) (oi := ?_) (v := ?_) ?_ (by kernel_rfl) (by kernel_rfl) (by kernel_rfl) (by kernel_rfl) ?_ (Or.inl ⟨?_, ?_⟩) (by assumption) ?_
          rotate_left 2
          · (simp only [List.getElem?_toArray, List.getElem?_cons_succ, List.getElem?_cons_zero]; rfl)
          · exact fun _ _ _ h => h
          · rfl
          · (intro w hSw; (try dsimp only at hSw); go_simp; (try with_reducible rfl))
          try simp only [Act.put, List.setIfInBounds_toArray, List.set_cons_zero, List.set_cons_succ]
          refine readyL (rs := [23]) (by kernel_rfl) (by simp) ?_
          refine AllReadyL.last (o := ?_) ?_ (fun K hK => ?_)
          rotate_left
          · (simp only [List.getElem?_toArray, List.getElem?_cons_succ, List.getElem?_cons_zero]; rfl)
          go_simp
          refine hK.out _ _ ?_
          clear hK K
          try simp only [Act.put, List.setIfInBounds_toArray, List.set_cons_zero, List.set_cons_succ]
          refine doneL (by kernel_rfl) ?_ _
          clear u3 u4 d0 d1 d2 d3 d4 fz
          go_wp2_with fail
          have PU := HAV.out.push (wa := (wr.alloc (.cells #[.int .i64 z] 3)).drew) (by go_grown) hown2 hgrow2
          rw [← HZ.out, Pl.tabTo_snoc _ hlt2] at PU
          go_roundw
          case rel => exact ⟨p + 1, by omega, by go_num, PU⟩
          case measure => simp [intOf]; omega
        · obtain rfl : p = X := by omega
          go_wp2_with fail
          go_roundw
          case rel => exact ⟨q + 1, by omega, by go_num, by rw [Nat.add_mul, Nat.one_mul]; exact hacc⟩
          case measure => simp [intOf]; omega
    · obtain rfl : q = Y := by omega
      obtain ⟨v, hv⟩ := hacc
      obtain ⟨A1, c1, rfl⟩ := hv.shape
      obtain ⟨v0, v1, v2, v3, v4, v5, v6⟩ := hv
      have OW := Lib.hid v4
      clear v4
      have ⟨qr0, qr1, qr2, qr3⟩ := (XR.out.below v5 XR.out.1).open3
      have fr0 : wr.frozen? ⟨w.heap.size + 1, 0, none⟩ = false := (v5.frozen (p := ⟨w.heap.size + 1, 0, none⟩) XR.out.1).trans (FR.out 0)
      have fr1 : wr.frozen? ⟨w.heap.size + 1, 1, none⟩ = false := (v5.frozen (p := ⟨w.heap.size + 1, 1, none⟩) XR.out.1).trans (FR.out 1)
      have fr2 : wr.frozen? ⟨w.heap.size + 1, 2, none⟩ = false := (v5.frozen (p := ⟨w.heap.size + 1, 2, none⟩) XR.out.1).trans (FR.out 2)
      have lt9 := XR.out.1
      have B2 : Below w.heap.size w wr := B1.trans (v5.mono (by omega))
      go_wp2_with fail
      refine bodyPost_ret (v := .agg #[.int .i64 (X : Int), .int .i64 (q : Int), .slice A1 (Pl.tabTo X (Pl.scaleAt ⟨W, H, zs⟩ X q) (q * X)).length c1]) (by simp [results, Try.results29, go_sem, qr1, qr2, qr3]) rfl ?_
      rw [← HV.out, Pl.tab_nat]
      refine ⟨A1, c1, rfl, ?_, by go_grown⟩
      have h := Own.far (Own.far (Own.far (Own.of_row OW.out) (p := ⟨w.heap.size + 1, 0, none⟩) (.inl (by simp; omega)) (.int .i64 X)) (p := ⟨w.heap.size + 1, 1, none⟩) (.inl (by simp; omega)) (.int .i64 q)) (p := ⟨w.heap.size + 1, 2, none⟩) (.inl (by simp; omega)) (.slice A1 (Pl.tabTo X (Pl.scaleAt ⟨W, H, zs⟩ X q) (q * X)).length c1)
      exact Own.mono h (by omega) (by simp [World.setCell]) (by simp [World.setCell])
end Go.Proofs.Ytbgemonpkncldaa
