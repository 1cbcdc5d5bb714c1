/- Contracts: Scaled of the program. -/
import Derived.Test.YtbgemonpkncldaaMap2
import Derived.Test.YtbgemonpkncldaaIm4
namespace Go.Proofs.Ytbgemonpkncldaa.Pl
theorem scaled_len (i : Img) (x y : Int) : (scaled i x y).d.length ≤ 256 := by
  unfold scaled
  split
  · rename_i h
    simp only [Bool.and_eq_true] at h
    exact tab_len _ h.1.2 h.2
  · simp [Img.zero]
end Go.Proofs.Ytbgemonpkncldaa.Pl
namespace Go.Proofs.Ytbgemonpkncldaa
open Go.RowKit
set_option linter.unusedVariables false
set_option linter.unusedSimpArgs false
set_option maxHeartbeats 4000000 in
theorem mapScaled (b1 b2 b3 X Y : Nat) (f : Nat → Nat → Int) (w : World) (x1 : 1 ≤ X) (x2 : X ≤ 16) (y1 : 1 ≤ Y) (y2 : Y ≤ 16)
    (HF : ∀ (x y : Nat) (wr : World), x < X → y < Y → Below w.heap.size w wr → Calls Try.prog 64 #[.int .i64 x, .int .i64 y, .pointer (some ⟨b1, 0, none⟩), .pointer (some ⟨b2, 0, none⟩), .pointer (some ⟨b3, 0, none⟩)] wr fun e w' => e = .returned (.int .i64 (f x y)) ∧ ∃ m, w' = wr.drewN m) :
    Calls Try.prog 61 #[.int .i64 X, .int .i64 Y, .func (.func 64) #[] #[.pointer (some ⟨b1, 0, none⟩), .pointer (some ⟨b2, 0, none⟩), .pointer (some ⟨b3, 0, none⟩)]] w (NewImg ⟨X, Y, Pl.tabTo X f (Y * X)⟩ w) := by
  have HFH := Lib.hid HF
  clear HF
  obtain ⟨i0, hi0, hz0, hz1, hz2⟩ := info_parts Try.infoInt
  have hm0 : X * Y ≤ 256 := by have := Nat.mul_le_mul x2 y2; omega
  have HM := Lib.hid (Int.natCast_mul X Y)
  go_enter Try.func61, Try.ntmps61
  go_wp2_with (at_make; refine wpList_make_own _ rfl _ _ 22 rfl (w.heap.size + 1) 3 i0 (.int .i64 0) 1 Try.underlying22 hi0 hz0 hz1 _ _ _ (X * Y) rfl rfl (by rw [HM.out]) (by rw [hz2]; omega) (by unfold maxLen; omega) (by simp) ?_)
  intro w1 hown hgrow
  have hlt0 : w.heap.size + 1 < w1.heap.size := (hown.lt _ rfl).2
  have hk0 : Below (w.heap.size + 1) (w.alloc (.cells #[.int .i64 0, .int .i64 0, .slice none 0 0] 27)) w1 := ⟨hgrow.os, hgrow.tape, hgrow.output, hgrow.size, fun k hk => hgrow.block k (by simp; omega) (by simp)⟩
  have ⟨kr, fr⟩ := keepc hk0 w.heap.size (by omega)
  have XR := Lib.hid (show Box w1 w.heap.size [.int .i64 0, .int .i64 0, .slice none 0 0] from ⟨by omega, fun o v hv => by
    rw [kr]
    match o, hv with
    | 0, hv => simp at hv; subst hv; simp [go_sem]
    | 1, hv => simp at hv; subst hv; simp [go_sem]
    | 2, hv => simp at hv; subst hv; simp [go_sem]⟩)
  have FR := Lib.hid (show ∀ o, w1.frozen? ⟨w.heap.size, o, none⟩ = false from fun o => by rw [fr]; simp [go_sem])
  have B1 : Below w.heap.size w w1 := (by go_grown : Below w.heap.size w (w.alloc (.cells #[.int .i64 0, .int .i64 0, .slice none 0 0] 27))).trans (hk0.mono (by omega))
  have A0 : AccE w1 (w1.alloc (.cells #[.int .i64 X, .int .i64 Y, .slice (some ⟨w.heap.size + 1, 0, none⟩) 0 (X * Y)] 27)) (w.heap.size + 1) w1.heap.size X Y [] := ⟨_, by simp [go_sem], by simp [go_sem], by simp [go_sem], by simp [go_sem], hown.alloc _, by simp [Value.ownBlock]; omega, by omega, by go_grown, by simp⟩
  clear hown hgrow kr fr hk0
  go_wp2_with fail
  go_loopw [18] (fun i wr => ∃ q : Nat, q ≤ Y ∧ i = .int .i64 q ∧ AccE w1 wr (w.heap.size + 1) w1.heap.size X Y (Pl.tabTo X f (q * X))) (fun i _ => Y - (intOf i).toNat)
  case atStart => exact ⟨0, by omega, rfl, by simpa [Pl.tabTo] using A0⟩
  case round =>
    clear A0
    obtain ⟨q, hq, rfl, hacc⟩ := hrel
    by_cases hlt : q < Y
    · obtain ⟨wo, rfl⟩ : ∃ wo : World, wo = wr := ⟨_, rfl⟩
      go_wp2_with fail
      go_loopw [22] (fun i wr => ∃ p : Nat, p ≤ X ∧ i = .int .i64 p ∧ AccE w1 wr (w.heap.size + 1) w1.heap.size X Y (Pl.tabTo X f (q * X + p))) (fun i _ => X - (intOf i).toNat)
      case atStart => exact ⟨0, by omega, rfl, by simpa using hacc⟩
      case round =>
        clear hacc
        obtain ⟨p, hp, rfl, hacc⟩ := hrel
        by_cases hlt2 : p < X
        · obtain ⟨v, hv⟩ := hacc
          have HAV := Lib.hid hv
          obtain ⟨v0, v1, v2, v3, v4, v5, v6, v7, v8⟩ := hv
          have OW := Lib.hid v4
          have NE := Lib.hid v5
          have BW : Below w.heap.size w wr := B1.trans (v7.mono (by omega))
          have PB := Lib.hid (Pl.place2 hlt hlt2 x2 y2)
          have vd : ∀ k o, ((wr.drewN k).alloc o).cell? ⟨w1.heap.size, 2, none⟩ = some v := fun k o => (cell_old (w := wr.drewN k) v8).trans v2
          clear v4 v5
          go_wp2_with fail
          go_region_law (first
            | (refine step_append_lies _ (by rfl) _ _ _ (by rfl) (w.heap.size + 1) 3 i0 (.int .i64 0) 1 8 Try.underlying22 hi0 hz0 hz1 hz2 rfl (by decide) v (Pl.tabTo X f (q * X + p)).length _ (by rfl) (own_da OW.out) ⟨wr.heap.size, 0, none⟩ 1 1 [.int .i64 (f p q)] (by rfl) (by rfl) news_da (one_one _) (by omega) (by rw [Pl.tabTo_length]; unfold maxLen; have := PB.out.1; omega) (by rw [Pl.tabTo_length]; have := PB.out.1; omega) (by simp; omega) (wr.heap.size + 1) (by simp) ?_; intro gg cap w2 hown2 hgrow2 hat2 hlt7; have ⟨cb2, fb2⟩ := HAV.out.after below_da hgrow2)
            | (go_simp; go_at_call 64; refine (HFH.out p q _ hlt2 hlt (below_drewN BW _)).mono ?_; rintro e w' ⟨rfl, m, rfl⟩)
            | (go_simp; go_at_call 64; refine (HFH.out p q _ hlt2 hlt (Below.drew BW)).mono ?_; rintro e w' ⟨rfl, m, rfl⟩))
          all_goals
            clear cb2 fb2 vd
            go_wp2_with fail
            have PU := HAV.out.push below_da hown2 hgrow2 hat2 (by omega)
            rw [Pl.tabTo_snoc _ hlt2] at PU
            go_roundw
            case rel => exact ⟨p + 1, by omega, by go_num, PU⟩
            case measure => simp [intOf]; omega
        · obtain rfl : p = X := by omega
          go_wp2_with fail
          go_roundw
          case rel => exact ⟨q + 1, by omega, by go_num, by rw [Nat.add_mul, Nat.one_mul]; exact hacc⟩
          case measure => simp [intOf]; omega
    · obtain rfl : q = Y := by omega
      obtain ⟨v, hv⟩ := hacc
      obtain ⟨v0, v1, v2, v3, v4, v5, v6, v7, v8⟩ := hv
      obtain ⟨A1, c1, rfl, _⟩ := (Own.of_row v4).shape
      have OW := Lib.hid v4
      have NE := Lib.hid v5
      clear v4 v5
      have ⟨qr0, qr1, qr2, qr3⟩ := (XR.out.below v7 (by omega)).open3
      have fr0 : wr.frozen? ⟨w.heap.size, 0, none⟩ = false := (v7.frozen (p := ⟨w.heap.size, 0, none⟩) (by simp)).trans (FR.out 0)
      have fr1 : wr.frozen? ⟨w.heap.size, 1, none⟩ = false := (v7.frozen (p := ⟨w.heap.size, 1, none⟩) (by simp)).trans (FR.out 1)
      have fr2 : wr.frozen? ⟨w.heap.size, 2, none⟩ = false := (v7.frozen (p := ⟨w.heap.size, 2, none⟩) (by simp)).trans (FR.out 2)
      have B2 : Below w.heap.size w wr := B1.trans (v7.mono (by omega))
      go_wp2_with fail
      refine bodyPost_ret (v := .agg #[.int .i64 (X : Int), .int .i64 (q : Int), .slice A1 (Pl.tabTo X f (q * X)).length c1]) (by simp [results, Try.results61, go_sem, qr1, qr2, qr3]) rfl ?_
      refine ⟨A1, c1, rfl, ?_, by go_grown⟩
      have h := Own.far (Own.far (Own.far (Own.of_row OW.out) (p := ⟨w.heap.size, 0, none⟩) (.inl (by simp)) (.int .i64 X)) (p := ⟨w.heap.size, 1, none⟩) (.inl (by simp)) (.int .i64 q)) (p := ⟨w.heap.size, 2, none⟩) (.inl (by simp)) (.slice A1 (Pl.tabTo X f (q * X)).length c1)
      exact Own.mono h (by omega) (by simp [World.setCell]) (by simp [World.setCell])
set_option maxHeartbeats 2000000 in
theorem scaledFn (W H X Y : Int) (A : Option Addr) (n c lo hi : Nat) (zs : List Int) (b b2 b3 x y : Nat) (w : World) (XB : Box w b [.int .i64 W, .int .i64 H, .slice A n c]) (X2 : Box w b2 [.int .i64 Y]) (X3 : Box w b3 [.int .i64 X]) (HI : Ints w lo hi (.slice A n c) zs) (hok : Pl.imageOk ⟨W, H, zs⟩ = true) (hX : 1 ≤ X ∧ X ≤ 16) (hY : 1 ≤ Y ∧ Y ≤ 16) (hx : (x : Int) < X) (hy : (y : Int) < Y) :
    Calls Try.prog 64 #[.int .i64 x, .int .i64 y, .pointer (some ⟨b, 0, none⟩), .pointer (some ⟨b2, 0, none⟩), .pointer (some ⟨b3, 0, none⟩)] w fun e w' => e = .returned (.int .i64 (Pl.scaleAt ⟨W, H, zs⟩ X Y x y)) ∧ ∃ m, w' = w.drewN m := by
  have L := Lib.hid HI.len_eq
  have G := Lib.hid HI
  have bn := HI.bd
  clear HI
  obtain ⟨⟨W1, W2⟩, ⟨H1, H2⟩, e3, _⟩ := Pl.imageOk_t hok
  simp only at W1 W2 H1 H2 e3
  rw [L.out] at e3
  have E3 := Lib.hid e3
  clear e3
  have ⟨q0, q1, q2, q3⟩ := XB.open3
  have ⟨r0, r1⟩ := X2.open1
  have ⟨u0, u1⟩ := X3.open1
  obtain ⟨s0, s1⟩ := Pl.scalePoint_in (f := H) (t := Y) (k := y) ⟨H1, H2⟩ (by omega) (by omega)
  obtain ⟨t0, t1⟩ := Pl.scalePoint_in (f := W) (t := X) (k := x) ⟨W1, W2⟩ (by omega) (by omega)
  have ES : Pl.scaleAt ⟨W, H, zs⟩ X Y x y = Pl.ix zs (Pl.scalePoint H Y y * W + Pl.scalePoint W X x) := rfl
  obtain ⟨s, hs⟩ : ∃ s, s = Pl.scalePoint H Y y := ⟨_, rfl⟩
  obtain ⟨t, ht⟩ : ∃ t, t = Pl.scalePoint W X x := ⟨_, rfl⟩
  rw [← hs, ← ht] at ES
  rw [← hs] at s0 s1
  rw [← ht] at t0 t1
  have HS := Lib.hid hs
  have HT := Lib.hid ht
  clear hs ht
  have ⟨p1, p2, p3, p4⟩ := Pl.place ⟨W1, W2⟩ ⟨H1, H2⟩ (x := t) (y := s) ⟨t0, by omega⟩ ⟨s0, by omega⟩
  have p5 : s * W + t < (n : Int) := by rw [E3.out]; exact p2
  obtain ⟨ix, hixi⟩ := Int.eq_ofNat_of_zero_le p1
  have hix : (s * W + t).toNat = ix := by rw [hixi]; simp
  obtain ⟨g, z, rfl, hg, e1, cc⟩ := G.out.gt (k := ix) (by omega)
  have cc' : w.cell? ⟨g, (s * W + t).toNat, none⟩ = some (.int .i64 z) := by rw [hix]; exact cc
  have HZ := Lib.hid (show z = Pl.scaleAt ⟨W, H, zs⟩ X Y x y by rw [ES, hixi]; exact (Pl.ix_get e1).symm)
  clear e1 cc hix hixi ES
  go_enter Try.func64, Try.ntmps64
  go_wp2_with fail
  have u3 : IntKind.i64.wrap (s * W) = s * W := IntWalk.i64_in _ ⟨by omega, by omega⟩
  have u4 : IntKind.i64.wrap (s * W + t) = s * W + t := IntWalk.i64_in _ ⟨by omega, by omega⟩
  refine regionL (S := (fun w' => w'.cell? ⟨b, 0, none⟩ = some (.int .i64 W) ∧ w'.cell? ⟨b, 1, none⟩ = some (.int .i64 H) ∧ w'.cell? ⟨b, 2, none⟩ = some (.slice (some ⟨g, 0, none⟩) n c) ∧ w'.cell? ⟨b2, 0, none⟩ = some (.int .i64 Y) ∧ w'.cell? ⟨b3, 0, none⟩ = some (.int .i64 X) ∧ w'.cell? ⟨g, (s * W + t).toNat, none⟩ = some (.int .i64 z))) (L := 19) (by kernel_rfl) ?_ (fun hHeld => ?_)
  · first | assumption | (refine ⟨?_, ?_, ?_, ?_, ?_, ?_⟩ <;> (simp only [World.cell?_drew]; assumption))
  refine takeL (i := 0) (oi := ?_) (v := ?_) ?_ (by kernel_rfl) (by kernel_rfl) (by kernel_rfl) (by kernel_rfl) ?_ (Or.inl ⟨?_, ?_⟩) (by assumption) ?_
  rotate_left 2
  · (simp only [List.getElem?_toArray, List.getElem?_cons_succ, List.getElem?_cons_zero]; rfl)
  · exact fun _ _ _ h => h
  · rfl
  · (intro w hSw; (try dsimp only at hSw); go_simp; (try with_reducible rfl))
  try simp only [Act.put, List.setIfInBounds_toArray, List.set_cons_zero, List.set_cons_succ]
  refine takeL (i := 1) (oi := ?_) (v := ?_) ?_ (by kernel_rfl) (by kernel_rfl) (by kernel_rfl) (by kernel_rfl) ?_ (Or.inl ⟨?_, ?_⟩) (by assumption) ?_
  rotate_left 2
  · (simp only [List.getElem?_toArray, List.getElem?_cons_succ, List.getElem?_cons_zero]; rfl)
  · exact fun _ _ _ h => h
  · rfl
  · (intro w hSw; (try dsimp only at hSw); go_simp; (try with_reducible rfl))
  try simp only [Act.put, List.setIfInBounds_toArray, List.set_cons_zero, List.set_cons_succ]
  refine takeL (i := 2) (oi := ?_) (v := ?_) ?_ (by kernel_rfl) (by kernel_rfl) (by kernel_rfl) (by kernel_rfl) ?_ (Or.inl ⟨?_, ?_⟩) (by assumption) ?_
  rotate_left 2
  · (simp only [List.getElem?_toArray, List.getElem?_cons_succ, List.getElem?_cons_zero]; rfl)
  · exact fun _ _ _ h => h
  · rfl
  · (intro w hSw; (try dsimp only at hSw); go_simp; (try with_reducible rfl))
  try simp only [Act.put, List.setIfInBounds_toArray, List.set_cons_zero, List.set_cons_succ]
  refine takeL (i := 3) (oi := ?_) (v := ?_) ?_ (by kernel_rfl) (by kernel_rfl) (by kernel_rfl) (by kernel_rfl) ?_ (Or.inl ⟨?_, ?_⟩) (by assumption) ?_
  rotate_left 2
  · (simp only [List.getElem?_toArray, List.getElem?_cons_succ, List.getElem?_cons_zero]; rfl)
  · exact fun _ _ _ h => h
  · rfl
  · (intro w hSw; (try dsimp only at hSw); go_simp; (try with_reducible rfl))
  try simp only [Act.put, List.setIfInBounds_toArray, List.set_cons_zero, List.set_cons_succ]
  refine takeL (i := 4) (oi := ?_) (v := ?_) ?_ (by kernel_rfl) (by kernel_rfl) (by kernel_rfl) (by kernel_rfl) ?_ (Or.inl ⟨?_, ?_⟩) (by assumption) ?_
  rotate_left 2
  · (simp only [List.getElem?_toArray, List.getElem?_cons_succ, List.getElem?_cons_zero]; rfl)
  · exact fun _ _ _ h => h
  · rfl
  · (intro w hSw; (try dsimp only at hSw); go_simp; (try with_reducible rfl))
  try simp only [Act.put, List.setIfInBounds_toArray, List.set_cons_zero, List.set_cons_succ]
  refine takeL (i := 5) (oi := ?_) (v := ?_) ?_ (by kernel_rfl) (by kernel_rfl) (by kernel_rfl) (by kernel_rfl) ?_ (Or.inl ⟨?_, ?_⟩) (by assumption) ?_
  rotate_left 2
  · (simp only [List.getElem?_toArray, List.getElem?_cons_succ, List.getElem?_cons_zero]; rfl)
  · exact fun _ _ _ h => h
  · rfl
  · (intro w hSw; (try dsimp only at hSw); go_simp; (try with_reducible rfl))
  try simp only [Act.put, List.setIfInBounds_toArray, List.set_cons_zero, List.set_cons_succ]
  refine takeL (i := 7) (oi := ?_) (v := ?_) ?_ (by kernel_rfl) (by kernel_rfl) (by kernel_rfl) (by kernel_rfl) ?_ (Or.inl ⟨?_, ?_⟩) (by assumption) ?_
  rotate_left 2
  · (simp only [List.getElem?_toArray, List.getElem?_cons_succ, List.getElem?_cons_zero]; rfl)
  · exact fun _ _ _ h => h
  · rfl
  · (intro w hSw; (try dsimp only at hSw); go_simp; (try with_reducible rfl))
  try simp only [Act.put, List.setIfInBounds_toArray, List.set_cons_zero, List.set_cons_succ]
  refine takeL (i := 8) (oi := ?_) (v := ?_) ?_ (by kernel_rfl) (by kernel_rfl) (by kernel_rfl) (by kernel_rfl) ?_ (Or.inl ⟨?_, ?_⟩) (by assumption) ?_
  rotate_left 2
  · (simp only [List.getElem?_toArray, List.getElem?_cons_succ, List.getElem?_cons_zero]; rfl)
  · exact fun _ _ _ h => h
  · rfl
  · (intro w hSw; (try dsimp only at hSw); go_simp; (try with_reducible rfl))
  try simp only [Act.put, List.setIfInBounds_toArray, List.set_cons_zero, List.set_cons_succ]
  refine takeL (i := 10) (oi := ?_) (v := ?_) ?_ (by kernel_rfl) (by kernel_rfl) (by kernel_rfl) (by kernel_rfl) ?_ (Or.inl ⟨?_, ?_⟩) (by assumption) ?_
  rotate_left 2
  · (simp only [List.getElem?_toArray, List.getElem?_cons_succ, List.getElem?_cons_zero]; rfl)
  · exact fun _ _ _ h => h
  · rfl
  · (intro w hSw; (try dsimp only at hSw); go_simp; (try with_reducible rfl))
  try simp only [Act.put, List.setIfInBounds_toArray, List.set_cons_zero, List.set_cons_succ]
  refine takeL (i := 11) (oi := ?_) (v := ?_) ?_ (by kernel_rfl) (by kernel_rfl) (by kernel_rfl) (by kernel_rfl) ?_ (Or.inl ⟨?_, ?_⟩) (by assumption) ?_
  rotate_left 2
  · (simp only [List.getElem?_toArray, List.getElem?_cons_succ, List.getElem?_cons_zero]; rfl)
  · exact fun _ _ _ h => h
  · rfl
  · (intro w hSw; (try dsimp only at hSw); go_simp; (try with_reducible rfl))
  try simp only [Act.put, List.setIfInBounds_toArray, List.set_cons_zero, List.set_cons_succ]
  refine takeL (i := 12) (oi := ?_) (v := ?_) ?_ (by kernel_rfl) (by kernel_rfl) (by kernel_rfl) (by kernel_rfl) ?_ (Or.inl ⟨?_, ?_⟩) (by assumption) ?_
  rotate_left 2
  · (simp only [List.getElem?_toArray, List.getElem?_cons_succ, List.getElem?_cons_zero]; rfl)
  · exact fun _ _ _ h => h
  · rfl
  · (intro w hSw; (try dsimp only at hSw); go_simp; (try with_reducible rfl))
  try simp only [Act.put, List.setIfInBounds_toArray, List.set_cons_zero, List.set_cons_succ]
  refine takeL (i := 13) (oi := ?_) (v := ?_) ?_ (by kernel_rfl) (by kernel_rfl) (by kernel_rfl) (by kernel_rfl) ?_ (Or.inl ⟨?_, ?_⟩) (by assumption) ?_
  rotate_left 2
  · (simp only [List.getElem?_toArray, List.getElem?_cons_succ, List.getElem?_cons_zero]; rfl)
  · exact fun _ _ _ h => h
  · rfl
  · (intro w hSw; (try dsimp only at hSw); go_simp; (try with_reducible rfl))
  try simp only [Act.put, List.setIfInBounds_toArray, List.set_cons_zero, List.set_cons_succ]
  refine readyL (rs := [6]) (by kernel_rfl) (by simp) ?_
  refine AllReadyL.cons (o := ?_) ?_ (fun K hK => ?_) AllReadyL.none_
  rotate_left
  · (simp only [List.getElem?_toArray, List.getElem?_cons_succ, List.getElem?_cons_zero]; rfl)
  go_simp
  go_at_call 37
  ((with_reducible refine (implScalePoint H Y y _).mono ?_))
  rw [← HS.out]
  rintro e w' ⟨rfl, rfl⟩
  refine hK.out _ _ ?_ (fun hHeld => ?_)
  · first | assumption | (refine ⟨?_, ?_, ?_, ?_, ?_, ?_⟩ <;> (simp only [World.cell?_drew]; assumption))
  clear hK K
  try simp only [Act.put, List.setIfInBounds_toArray, List.set_cons_zero, List.set_cons_succ]
  refine takeL (i := 9) (oi := ?_) (v := ?_) ?_ (by kernel_rfl) (by kernel_rfl) (by kernel_rfl) (by kernel_rfl) ?_ (Or.inl ⟨?_, ?_⟩) (by assumption) ?_
  rotate_left 2
  · (simp only [List.getElem?_toArray, List.getElem?_cons_succ, List.getElem?_cons_zero]; rfl)
  · exact fun _ _ _ h => h
  · rfl
  · (intro w hSw; (try dsimp only at hSw); go_simp; (try with_reducible rfl))
  try simp only [Act.put, List.setIfInBounds_toArray, List.set_cons_zero, List.set_cons_succ]
  refine readyL (rs := [14]) (by kernel_rfl) (by simp) ?_
  refine AllReadyL.cons (o := ?_) ?_ (fun K hK => ?_) AllReadyL.none_
  rotate_left
  · (simp only [List.getElem?_toArray, List.getElem?_cons_succ, List.getElem?_cons_zero]; rfl)
  go_simp
  go_at_call 37
  ((with_reducible refine (implScalePoint W X x _).mono ?_))
  rw [← HT.out]
  rintro e w' ⟨rfl, rfl⟩
  refine hK.out _ _ ?_ (fun hHeld => ?_)
  · first | assumption | (refine ⟨?_, ?_, ?_, ?_, ?_, ?_⟩ <;> (simp only [World.cell?_drew]; assumption))
  clear hK K
  try simp only [Act.put, List.setIfInBounds_toArray, List.set_cons_zero, List.set_cons_succ]
  refine takeL (i := 15) (oi := ?_) (v := ?_) ?_ (by kernel_rfl) (by kernel_rfl) (by kernel_rfl) (by kernel_rfl) ?_ (Or.inl ⟨?_, ?_⟩) (by assumption) ?_
  rotate_left 2
  · (simp only [List.getElem?_toArray, List.getElem?_cons_succ, List.getElem?_cons_zero]; rfl)
  · exact fun _ _ _ h => h
  · rfl
  · (intro w hSw; (try dsimp only at hSw); go_simp; (try with_reducible rfl))
  try simp only [Act.put, List.setIfInBounds_toArray, List.set_cons_zero, List.set_cons_succ]
  refine takeL (i := 16) (oi := ?_) (v := ?_) ?_ (by kernel_rfl) (by kernel_rfl) (by kernel_rfl) (by kernel_rfl) ?_ (Or.inl ⟨?_, ?_⟩) (by assumption) ?_
  rotate_left 2
  · (simp only [List.getElem?_toArray, List.getElem?_cons_succ, List.getElem?_cons_zero]; rfl)
  · exact fun _ _ _ h => h
  · rfl
  · (intro w hSw; (try dsimp only at hSw); go_simp; (try with_reducible rfl))
  try simp only [Act.put, List.setIfInBounds_toArray, List.set_cons_zero, List.set_cons_succ]
  refine takeL (i := 17) (oi := ?_) (v := ?_) ?_ (by kernel_rfl) (by kernel_rfl) (by kernel_rfl) (by kernel_rfl) ?_ (Or.inl ⟨?_, ?_⟩) (by assumption) ?_
  rotate_left 2
  · (simp only [List.getElem?_toArray, List.getElem?_cons_succ, List.getElem?_cons_zero]; rfl)
  · exact fun _ _ _ h => h
  · rfl
  · (intro w hSw; (try dsimp only at hSw); go_simp; (try with_reducible rfl))
  try simp only [Act.put, List.setIfInBounds_toArray, List.set_cons_zero, List.set_cons_succ]
  refine takeL (i := 18) (oi := ?_) (v := ?_) ?_ (by kernel_rfl) (by kernel_rfl) (by kernel_rfl) (by kernel_rfl) ?_ (Or.inl ⟨?_, ?_⟩) (by assumption) ?_
  rotate_left 2
  · (simp only [List.getElem?_toArray, List.getElem?_cons_succ, List.getElem?_cons_zero]; rfl)
  · exact fun _ _ _ h => h
  · rfl
  · (intro w hSw; (try dsimp only at hSw); go_simp; (try with_reducible rfl))
  try simp only [Act.put, List.setIfInBounds_toArray, List.set_cons_zero, List.set_cons_succ]
  refine doneL (by kernel_rfl) ?_ _
  clear u3 u4
  go_wp2_with fail
  go_ret
  exact ⟨ret_int HZ.out, 1, rfl⟩
set_option maxHeartbeats 4000000 in
theorem implScaled (W H : Int) (A : Option Addr) (n c lo hi : Nat) (zs : List Int) (x y : Int) (w : World) (HI : Ints w lo hi (.slice A n c) zs) :
    Calls Try.prog 30 #[.agg #[.int .i64 W, .int .i64 H, .slice A n c], .int .i64 x, .int .i64 y] w (NewImg (Pl.scaled ⟨W, H, zs⟩ x y) w) := by
  have bn := HI.bd
  have L := Lib.hid HI.len_eq
  have G := Lib.hid HI
  clear HI
  cases hok : Pl.imageOk ⟨W, H, zs⟩
  case false =>
    have HV := Lib.hid (show Pl.Img.zero = Pl.scaled ⟨W, H, zs⟩ x y by simp [Pl.scaled, hok])
    go_enter Try.func30, Try.ntmps30
    go_wp2_with fail
    refine (implImageOk _ _ _ _ _ lo hi zs _ (G.out.step (by go_grown))).mono ?_
    rw [hok]
    rintro e w1 ⟨rfl, hb1⟩
    have ⟨k1, f1, y1⟩ := keep3 hb1 (w.heap.size + 1 + 1 + 1) (by first | (simp; done) | (simp; omega))
    have ⟨kx, fx, yx⟩ := keep3 hb1 (w.heap.size + 1) (by first | (simp; done) | (simp; omega))
    have ⟨ky, fy, yy⟩ := keep3 hb1 (w.heap.size + 1 + 1) (by first | (simp; done) | (simp; omega))
    have B1 : Below w.heap.size w w1 := later (by go_grown) hb1
    go_wp2_with fail
    refine bodyPost_ret (v := .agg #[.int .i64 0, .int .i64 0, .slice none 0 0]) (by simp [results, Try.results30, go_sem, k1]) rfl ?_
    rw [← HV.out]
    exact ⟨none, 0, rfl, Own.nil _ _ _ _ _ (Nat.le_refl _), by go_grown⟩
  cases hx : Pl.inB x 1 16
  case false =>
    have HV := Lib.hid (show Pl.Img.zero = Pl.scaled ⟨W, H, zs⟩ x y by simp [Pl.scaled, hx])
    go_enter Try.func30, Try.ntmps30
    go_wp2_with fail
    refine (implImageOk _ _ _ _ _ lo hi zs _ (G.out.step (by go_grown))).mono ?_
    rw [hok]
    rintro e w1 ⟨rfl, hb1⟩
    have ⟨k1, f1, y1⟩ := keep3 hb1 (w.heap.size + 1 + 1 + 1) (by first | (simp; done) | (simp; omega))
    have ⟨kx, fx, yx⟩ := keep3 hb1 (w.heap.size + 1) (by first | (simp; done) | (simp; omega))
    have ⟨ky, fy, yy⟩ := keep3 hb1 (w.heap.size + 1 + 1) (by first | (simp; done) | (simp; omega))
    have B1 : Below w.heap.size w w1 := later (by go_grown) hb1
    go_wp2_with (go_at_call 51; ((with_reducible refine (isSide_any _ _).mono ?_)); rintro e w' ⟨rfl, rfl⟩)
    refine bodyPost_ret (v := .agg #[.int .i64 0, .int .i64 0, .slice none 0 0]) (by simp [results, Try.results30, go_sem, k1]) rfl ?_
    rw [← HV.out]
    exact ⟨none, 0, rfl, Own.nil _ _ _ _ _ (Nat.le_refl _), by go_grown⟩
  cases hy : Pl.inB y 1 16
  case false =>
    have HV := Lib.hid (show Pl.Img.zero = Pl.scaled ⟨W, H, zs⟩ x y by simp [Pl.scaled, hy])
    go_enter Try.func30, Try.ntmps30
    go_wp2_with fail
    refine (implImageOk _ _ _ _ _ lo hi zs _ (G.out.step (by go_grown))).mono ?_
    rw [hok]
    rintro e w1 ⟨rfl, hb1⟩
    have ⟨k1, f1, y1⟩ := keep3 hb1 (w.heap.size + 1 + 1 + 1) (by first | (simp; done) | (simp; omega))
    have ⟨kx, fx, yx⟩ := keep3 hb1 (w.heap.size + 1) (by first | (simp; done) | (simp; omega))
    have ⟨ky, fy, yy⟩ := keep3 hb1 (w.heap.size + 1 + 1) (by first | (simp; done) | (simp; omega))
    have B1 : Below w.heap.size w w1 := later (by go_grown) hb1
    go_wp2_with (go_at_call 51; ((with_reducible refine (isSide_any _ _).mono ?_)); rintro e w' ⟨rfl, rfl⟩)
    refine bodyPost_ret (v := .agg #[.int .i64 0, .int .i64 0, .slice none 0 0]) (by simp [results, Try.results30, go_sem, k1]) rfl ?_
    rw [← HV.out]
    exact ⟨none, 0, rfl, Own.nil _ _ _ _ _ (Nat.le_refl _), by go_grown⟩
  have ⟨x1, x2⟩ := Pl.inB_t hx
  have ⟨y1, y2⟩ := Pl.inB_t hy
  have HV := Lib.hid (show (⟨x, y, Pl.tab x y (Pl.scaleAt ⟨W, H, zs⟩ x y)⟩ : Pl.Img) = Pl.scaled ⟨W, H, zs⟩ x y by simp [Pl.scaled, hok, hx, hy])
  obtain ⟨X, rfl⟩ := Int.eq_ofNat_of_zero_le (show 0 ≤ x by omega)
  obtain ⟨Y, rfl⟩ := Int.eq_ofNat_of_zero_le (show 0 ≤ y by omega)
  go_enter Try.func30, Try.ntmps30
  go_wp2_with fail
  refine (implImageOk _ _ _ _ _ lo hi zs _ (G.out.step (by go_grown))).mono ?_
  rw [hok]
  rintro e w1 ⟨rfl, hb1⟩
  have XA := Lib.hid (Box.of3 hb1 w.heap.size (by simp; omega) (v0 := .int .i64 W) (v1 := .int .i64 H) (v2 := .slice A n c) (by simp [go_sem]) (by simp [go_sem]) (by simp [go_sem]))
  have X2 := Lib.hid (Box.of1 hb1 (w.heap.size + 1 + 1) (by first | (simp; done) | (simp; omega)) (v0 := .int .i64 Y) (by simp [go_sem]))
  have X3 := Lib.hid (Box.of1 hb1 (w.heap.size + 1) (by first | (simp; done) | (simp; omega)) (v0 := .int .i64 X) (by simp [go_sem]))
  have ⟨k1, f1, z1⟩ := keep3 hb1 (w.heap.size + 1 + 1 + 1) (by first | (simp; done) | (simp; omega))
  have ⟨kx, fx, yx⟩ := keep3 hb1 (w.heap.size + 1) (by first | (simp; done) | (simp; omega))
  have ⟨ky, fy, yy⟩ := keep3 hb1 (w.heap.size + 1 + 1) (by first | (simp; done) | (simp; omega))
  have B1 : Below w.heap.size w w1 := later (by go_grown) hb1
  have G1 := Lib.hid (G.out.step B1)
  go_wp2_with (go_at_call 51; ((with_reducible refine (isSide_any _ _).mono ?_)); rintro e w' ⟨rfl, rfl⟩)
  refine (mapScaled w.heap.size (w.heap.size + 1 + 1) (w.heap.size + 1) X Y (Pl.scaleAt ⟨W, H, zs⟩ X Y) _ (by omega) (by omega) (by omega) (by omega) (fun p q wr hp hq hbr => scaledFn W H X Y A n c lo hi zs w.heap.size (w.heap.size + 1 + 1) (w.heap.size + 1) p q wr (XA.out.step hbr) (X2.out.step hbr) (X3.out.step hbr) (G1.out.step hbr) hok ⟨by omega, by omega⟩ ⟨by omega, by omega⟩ (by omega) (by omega))).mono ?_
  rintro e w2 ⟨A2, c2, rfl, O2, hb2⟩
  have H2 := Lib.hid O2
  have ⟨k2, f2, z2⟩ := keep3 hb2 (w.heap.size + 1 + 1 + 1) z1
  have B2 : Below w.heap.size w w2 := later B1 hb2
  have s1 := B1.size
  clear O2
  go_wp2_with fail
  refine bodyPost_ret (v := .agg #[.int .i64 (X : Int), .int .i64 (Y : Int), .slice A2 (Pl.tabTo X (Pl.scaleAt ⟨W, H, zs⟩ X Y) (Y * X)).length c2]) (by simp [results, Try.results30, go_sem, k1, k2]) rfl ?_
  rw [← HV.out, Pl.tab_nat]
  refine ⟨A2, c2, rfl, ?_, by go_grown⟩
  have h := Own.far (Own.far (Own.far H2.out (p := ⟨w.heap.size + 1 + 1 + 1, 0, none⟩) (.inl z1) (.int .i64 X)) (p := ⟨w.heap.size + 1 + 1 + 1, 1, none⟩) (.inl z1) (.int .i64 Y)) (p := ⟨w.heap.size + 1 + 1 + 1, 2, none⟩) (.inl z1) (.slice A2 (Pl.tabTo X (Pl.scaleAt ⟨W, H, zs⟩ X Y) (Y * X)).length c2)
  exact Own.mono h (by omega) (by simp [World.setCell]) (by simp [World.setCell])
end Go.Proofs.Ytbgemonpkncldaa
