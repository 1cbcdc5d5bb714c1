/- Contracts: TileImage of the program. -/
import Derived.Test.YtbgemonpkncldaaMap
namespace Go.Proofs.Ytbgemonpkncldaa.Pl
theorem tab_len {w h : Int} (f : Nat → Nat → Int) (h1 : inB w 1 16 = true) (h2 : inB h 1 16 = true) : (tab w h f).length ≤ 256 := by
  have a := inB_t h1
  have b := inB_t h2
  have c := mul_bd (a := h) (b := w) (A := 16) (B := 16) (by omega) (by omega) (by omega) (by omega)
  unfold tab
  rw [tabTo_length]
  omega
theorem tile_len (i : Img) (x y : Int) : (tile i x y).d.length ≤ 256 := by
  unfold tile
  split
  · rename_i h
    simp only [Bool.and_eq_true] at h
    exact tab_len _ h.1.2 h.2
  · simp [Img.zero]
end Go.Proofs.Ytbgemonpkncldaa.Pl
namespace Go.Proofs.Ytbgemonpkncldaa
open Go.RowKit
set_option linter.unusedVariables false
theorem tileFn (W H : Int) (A : Option Addr) (n c lo hi : Nat) (zs : List Int) (b x y : Nat) (w : World) (XB : Box w b [.int .i64 W, .int .i64 H, .slice A n c]) (HI : Ints w lo hi (.slice A n c) zs) (hok : Pl.imageOk ⟨W, H, zs⟩ = true) :
    Calls Try.prog 62 #[.int .i64 x, .int .i64 y, .pointer (some ⟨b, 0, none⟩)] w fun e w' => e = .returned (.int .i64 (Pl.tileAt ⟨W, H, zs⟩ x y)) ∧ ∃ m, w' = w.drewN m := by
  have L := Lib.hid HI.len_eq
  have G := Lib.hid HI
  have bn := HI.bd
  clear HI
  obtain ⟨⟨W1, W2⟩, ⟨H1, H2⟩, e3, _⟩ := Pl.imageOk_t hok
  simp only at W1 W2 H1 H2 e3
  rw [L.out] at e3
  have ⟨q0, q1, q2, q3⟩ := XB.open3
  have tq : 0 ≤ (y : Int) % H ∧ (y : Int) % H < H := ⟨Int.emod_nonneg _ (by omega), Int.emod_lt_of_pos _ (by omega)⟩
  have tp : 0 ≤ (x : Int) % W ∧ (x : Int) % W < W := ⟨Int.emod_nonneg _ (by omega), Int.emod_lt_of_pos _ (by omega)⟩
  obtain ⟨tq1, tq2⟩ := tq
  obtain ⟨tp1, tp2⟩ := tp
  have ⟨p1, p2, p3, p4⟩ := Pl.place ⟨W1, W2⟩ ⟨H1, H2⟩ (x := (x : Int) % W) (y := (y : Int) % H) ⟨tp1, by omega⟩ ⟨tq1, by omega⟩
  have p5 : (y : Int) % H * W + (x : Int) % W < (n : Int) := by rw [e3]; exact p2
  obtain ⟨ix, hixi⟩ := Int.eq_ofNat_of_zero_le p1
  have hix : ((y : Int) % H * W + (x : Int) % W).toNat = ix := by rw [hixi]; simp
  obtain ⟨g, z, rfl, hg, e1, cc⟩ := G.out.gt (k := ix) (by omega)
  have cc' : w.cell? ⟨g, ((y : Int) % H * W + (x : Int) % W).toNat, none⟩ = some (.int .i64 z) := by rw [hix]; exact cc
  have HZ := Lib.hid (show z = Pl.tileAt ⟨W, H, zs⟩ x y by unfold Pl.tileAt; simp only; rw [hixi]; exact (Pl.ix_get e1).symm)
  clear e1 cc hix hixi e3 p2
  go_enter Try.func62, Try.ntmps62
  go_wp2_with fail
  have hH0 : (H == 0) = false := by simp; omega
  have hW0 : (W == 0) = false := by simp; omega
  have nH0 : ¬ H = 0 := by omega
  have nW0 : ¬ W = 0 := by omega
  have r1 : (y : Int).tmod H = (y : Int) % H := Int.tmod_eq_emod_of_nonneg (by omega)
  have r2 : (x : Int).tmod W = (x : Int) % W := Int.tmod_eq_emod_of_nonneg (by omega)
  have u1 : IntKind.i64.wrap ((y : Int) % H) = (y : Int) % H := IntWalk.i64_in _ ⟨by omega, by omega⟩
  have u2 : IntKind.i64.wrap ((x : Int) % W) = (x : Int) % W := IntWalk.i64_in _ ⟨by omega, by omega⟩
  have u3 : IntKind.i64.wrap ((y : Int) % H * W) = (y : Int) % H * W := IntWalk.i64_in _ ⟨by omega, by omega⟩
  have u4 : IntKind.i64.wrap ((y : Int) % H * W + (x : Int) % W) = (y : Int) % H * W + (x : Int) % W := IntWalk.i64_in _ ⟨by omega, by omega⟩
  go_quiet (fail)
  clear hH0 hW0 nH0 nW0 r1 r2 u1 u2 u3 u4
  go_wp2_with fail
  go_ret
  exact ⟨ret_int HZ.out, _, rfl⟩
set_option maxHeartbeats 4000000 in
theorem implTile (W H : Int) (A : Option Addr) (n c lo hi : Nat) (zs : List Int) (x y : Int) (w : World) (HI : Ints w lo hi (.slice A n c) zs) :
    Calls Try.prog 28 #[.agg #[.int .i64 W, .int .i64 H, .slice A n c], .int .i64 x, .int .i64 y] w (NewImg (Pl.tile ⟨W, H, zs⟩ x y) w) := by
  have bn := HI.bd
  have L := Lib.hid HI.len_eq
  have G := Lib.hid HI
  clear HI
  cases hok : Pl.imageOk ⟨W, H, zs⟩
  case false =>
    have HV := Lib.hid (show Pl.Img.zero = Pl.tile ⟨W, H, zs⟩ x y by simp [Pl.tile, hok])
    go_enter Try.func28, Try.ntmps28
    go_wp2_with fail
    refine (implImageOk _ _ _ _ _ lo hi zs _ (G.out.step (by go_grown))).mono ?_
    rw [hok]
    rintro e w1 ⟨rfl, hb1⟩
    have ⟨k1, f1, y1⟩ := keep3 hb1 (w.heap.size + 1) (by simp)
    have B1 : Below w.heap.size w w1 := later (by go_grown) hb1
    go_wp2_with fail
    refine bodyPost_ret (v := .agg #[.int .i64 0, .int .i64 0, .slice none 0 0]) (by simp [results, Try.results28, go_sem, k1]) rfl ?_
    rw [← HV.out]
    exact ⟨none, 0, rfl, Own.nil _ _ _ _ _ (Nat.le_refl _), by go_grown⟩
  cases hx : Pl.inB x 1 16
  case false =>
    have HV := Lib.hid (show Pl.Img.zero = Pl.tile ⟨W, H, zs⟩ x y by simp [Pl.tile, hx])
    go_enter Try.func28, Try.ntmps28
    go_wp2_with fail
    refine (implImageOk _ _ _ _ _ lo hi zs _ (G.out.step (by go_grown))).mono ?_
    rw [hok]
    rintro e w1 ⟨rfl, hb1⟩
    have ⟨k1, f1, y1⟩ := keep3 hb1 (w.heap.size + 1) (by simp)
    have B1 : Below w.heap.size w w1 := later (by go_grown) hb1
    go_wp2_with (go_at_call 51; ((with_reducible refine (isSide_any _ _).mono ?_)); rintro e w' ⟨rfl, rfl⟩)
    refine bodyPost_ret (v := .agg #[.int .i64 0, .int .i64 0, .slice none 0 0]) (by simp [results, Try.results28, go_sem, k1]) rfl ?_
    rw [← HV.out]
    exact ⟨none, 0, rfl, Own.nil _ _ _ _ _ (Nat.le_refl _), by go_grown⟩
  cases hy : Pl.inB y 1 16
  case false =>
    have HV := Lib.hid (show Pl.Img.zero = Pl.tile ⟨W, H, zs⟩ x y by simp [Pl.tile, hy])
    go_enter Try.func28, Try.ntmps28
    go_wp2_with fail
    refine (implImageOk _ _ _ _ _ lo hi zs _ (G.out.step (by go_grown))).mono ?_
    rw [hok]
    rintro e w1 ⟨rfl, hb1⟩
    have ⟨k1, f1, y1⟩ := keep3 hb1 (w.heap.size + 1) (by simp)
    have B1 : Below w.heap.size w w1 := later (by go_grown) hb1
    go_wp2_with (go_at_call 51; ((with_reducible refine (isSide_any _ _).mono ?_)); rintro e w' ⟨rfl, rfl⟩)
    refine bodyPost_ret (v := .agg #[.int .i64 0, .int .i64 0, .slice none 0 0]) (by simp [results, Try.results28, go_sem, k1]) rfl ?_
    rw [← HV.out]
    exact ⟨none, 0, rfl, Own.nil _ _ _ _ _ (Nat.le_refl _), by go_grown⟩
  have ⟨x1, x2⟩ := Pl.inB_t hx
  have ⟨y1, y2⟩ := Pl.inB_t hy
  have HV := Lib.hid (show (⟨x, y, Pl.tab x y (Pl.tileAt ⟨W, H, zs⟩)⟩ : Pl.Img) = Pl.tile ⟨W, H, zs⟩ x y by simp [Pl.tile, hok, hx, hy])
  obtain ⟨X, rfl⟩ := Int.eq_ofNat_of_zero_le (show 0 ≤ x by omega)
  obtain ⟨Y, rfl⟩ := Int.eq_ofNat_of_zero_le (show 0 ≤ y by omega)
  go_enter Try.func28, Try.ntmps28
  go_wp2_with fail
  refine (implImageOk _ _ _ _ _ lo hi zs _ (G.out.step (by go_grown))).mono ?_
  rw [hok]
  rintro e w1 ⟨rfl, hb1⟩
  have XA := Lib.hid (Box.of3 hb1 w.heap.size (by simp; omega) (v0 := .int .i64 W) (v1 := .int .i64 H) (v2 := .slice A n c) (by simp [go_sem]) (by simp [go_sem]) (by simp [go_sem]))
  have ⟨k1, f1, z1⟩ := keep3 hb1 (w.heap.size + 1) (by simp)
  have B1 : Below w.heap.size w w1 := later (by go_grown) hb1
  have G1 := Lib.hid (G.out.step B1)
  go_wp2_with (go_at_call 51; ((with_reducible refine (isSide_any _ _).mono ?_)); rintro e w' ⟨rfl, rfl⟩)
  refine (mapTile w.heap.size X Y (Pl.tileAt ⟨W, H, zs⟩) _ (by omega) (by omega) (by omega) (by omega) (fun p q wr _ _ hbr => tileFn W H A n c lo hi zs w.heap.size p q wr (XA.out.step hbr) (G1.out.step hbr) hok)).mono ?_
  rintro e w2 ⟨A2, c2, rfl, O2, hb2⟩
  have H2 := Lib.hid O2
  have ⟨k2, f2, z2⟩ := keep3 hb2 (w.heap.size + 1) z1
  have B2 : Below w.heap.size w w2 := later B1 hb2
  have s1 := B1.size
  clear O2
  go_wp2_with fail
  refine bodyPost_ret (v := .agg #[.int .i64 (X : Int), .int .i64 (Y : Int), .slice A2 (Pl.tabTo X (Pl.tileAt ⟨W, H, zs⟩) (Y * X)).length c2]) (by simp [results, Try.results28, go_sem, k1, k2]) rfl ?_
  rw [← HV.out, Pl.tab_nat]
  refine ⟨A2, c2, rfl, ?_, by go_grown⟩
  have h := Own.far (Own.far (Own.far H2.out (p := ⟨w.heap.size + 1, 0, none⟩) (.inl z1) (.int .i64 X)) (p := ⟨w.heap.size + 1, 1, none⟩) (.inl z1) (.int .i64 Y)) (p := ⟨w.heap.size + 1, 2, none⟩) (.inl z1) (.slice A2 (Pl.tabTo X (Pl.tileAt ⟨W, H, zs⟩) (Y * X)).length c2)
  exact Own.mono h (by omega) (by simp [World.setCell]) (by simp [World.setCell])
end Go.Proofs.Ytbgemonpkncldaa
