/- Contracts over images: TileImage, Scaled of the reference (rows of appended pixels). -/
import Derived.Test.YtbgemonpkncldaaIm2
import Derived.Test.YtbgemonpkncldaaBox
import Derived.Deep.RegionHeld3
import Derived.RegionTactic
import Derived.BigRegion
import Derived.ChangeAlike
import Derived.Deep.AppendLies
namespace Go.Proofs.Ytbgemonpkncldaa.Pl
theorem tab_nat (X Y : Nat) (f : Nat → Nat → Int) : tab (X : Int) (Y : Int) f = tabTo X f (Y * X) := by
  unfold tab
  rw [← Int.natCast_mul]
  rfl
theorem place2 {q Y p X : Nat} (h1 : q < Y) (h2 : p < X) (h3 : X ≤ 16) (h4 : Y ≤ 16) : q * X + p < 256 ∧ (q + 1) * X = q * X + X := by
  have : q * X ≤ 15 * 16 := Nat.mul_le_mul (by omega) h3
  exact ⟨by omega, by rw [Nat.add_mul]; omega⟩
end Go.Proofs.Ytbgemonpkncldaa.Pl
namespace Go.Proofs.Ytbgemonpkncldaa
open Go.RowKit
set_option linter.unusedVariables false


/-- The builtin append behind a name that the walk does not open. -/
def appX (ts : Array TypeId) (ty : TypeId) (args : Array Value) := Builtin.append_ ts ty args
theorem app_fold (ts : Array TypeId) (ty : TypeId) (args : Array Value) : Builtin.append_ ts ty args = appX ts ty args := rfl
attribute [local go_sem ↓] app_fold
theorem frozen_old {w : World} {o : Obj} {b o' : Nat} (h : b < w.heap.size) : (w.alloc o).frozen? ⟨b, o', none⟩ = w.frozen? ⟨b, o', none⟩ := World.frozen?_of_block (Below.heap_alloc _ _ _ h)
theorem grown_keep {w w' : World} {v : Value} {base : Nat} {e : TypeId} {size n : Nat} {xs : List Value} (hown : w.ownsRow base e size v n xs) (hg : w.grownBy w' v.ownBlock) (hb : base ≤ w.heap.size) : Below base w w' :=
  ⟨hg.os, hg.tape, hg.output, hg.size, fun k hk => hg.block k (by omega) (fun h => by have := hown.lt k h.symm; omega)⟩
theorem one_cell (w : World) (t : TypeId) (k : IntKind) (z : Int) : ∀ j u, [Value.int k z][j]? = some u → (w.alloc (.cells #[.int k z] t)).cell? ((⟨w.heap.size, 0, none⟩ : Addr).add j) = some u := by
  intro j u hj
  match j, hj with
  | 0, hj => simp at hj; subst hj; simp [Addr.add]
theorem one_one {k : IntKind} (z : Int) : ∀ u ∈ [Value.int k z], u.oneCell' = true := by intro u hu; simp at hu; subst hu; rfl

/-- The image that is being built lies in block b: its data is v, the cells d; below b nothing has changed since w1. -/
def AccV (w1 wr : World) (b : Nat) (X Y : Int) (d : List Int) (v : Value) : Prop :=
  wr.cell? ⟨b, 0, none⟩ = some (.int .i64 X) ∧ wr.cell? ⟨b, 1, none⟩ = some (.int .i64 Y) ∧ wr.cell? ⟨b, 2, none⟩ = some v ∧ wr.frozen? ⟨b, 2, none⟩ = false ∧
  wr.ownsRow (b + 1) 3 1 v d.length (d.map (Value.int .i64)) ∧ Below b w1 wr ∧ b < wr.heap.size
def Acc (w1 wr : World) (b : Nat) (X Y : Int) (d : List Int) : Prop := ∃ v, AccV w1 wr b X Y d v
theorem Acc.start (w1 : World) (X Y : Int) (t : TypeId) : Acc w1 (w1.alloc (.cells #[.int .i64 X, .int .i64 Y, .slice none 0 0] t)) w1.heap.size X Y [] :=
  ⟨.slice none 0 0, by simp [go_sem], by simp [go_sem], by simp [go_sem], by simp [go_sem], World.ownsRow_nil _ _ _ _, by go_grown, by simp⟩
theorem AccV.push {w1 wr wa w2 : World} {b : Nat} {X Y : Int} {d : List Int} {v v' : Value} {z : Int} (h : AccV w1 wr b X Y d v) (hb : Below wr.heap.size wr wa)
    (hown : w2.ownsRow (b + 1) 3 1 v' (d.length + 1) (d.map (Value.int .i64) ++ [.int .i64 z])) (hg : wa.grownBy w2 v.ownBlock) : Acc w1 (w2.setCell ⟨b, 2, none⟩ v') b X Y (d ++ [z]) := by
  obtain ⟨h0, h1, h2, h3, h4, h5, h6⟩ := h
  have hown0 : Own wa (b + 1) wr.heap.size 3 1 v d.length (d.map (Value.int .i64)) := Own.below (Own.of_row h4) hb (Nat.le_refl _)
  have hk : Below (b + 1) wa w2 := ⟨hg.os, hg.tape, hg.output, hg.size, fun k hk => hg.block k (by have := hb.size; omega) (fun e => by have := hown0.1.lt k e.symm; omega)⟩
  have hk2 : Below (b + 1) wr w2 := (hb.mono (by omega)).trans hk
  have c0 : ∀ o, w2.cell? ⟨b, o, none⟩ = wr.cell? ⟨b, o, none⟩ := fun o => hk2.cell (p := ⟨b, o, none⟩) (by simp)
  have f0 : ∀ o, w2.frozen? ⟨b, o, none⟩ = wr.frozen? ⟨b, o, none⟩ := fun o => hk2.frozen (p := ⟨b, o, none⟩) (by simp)
  refine ⟨v', by simp [go_sem, c0, h0], by simp [go_sem, c0, h1], by simp [go_sem, c0, h2], by simp [go_sem, f0, h3], ?_, ?_, ?_⟩
  · have := ownsRow_setCell_below hown (a := ⟨b, 2, none⟩) (by simp) v'
    rw [List.length_append, List.map_append]
    exact this
  · exact (h5.trans (hk2.mono (by omega))).setCell (by simp) _
  · have := hk2.size
    simp [World.setCell]; omega
/-- The finished image, handed back out of its block. -/
theorem AccV.shape {w1 wr : World} {b : Nat} {X Y : Int} {d : List Int} {v : Value} (h : AccV w1 wr b X Y d v) : ∃ A c, v = .slice A d.length c := by
  obtain ⟨A, c, e, _⟩ := (Own.of_row h.2.2.2.2.1).shape
  exact ⟨A, c, e⟩
set_option maxHeartbeats 4000000 in
theorem specTile (W H : Int) (A : Option Addr) (n c lo hi : Nat) (zs : List Int) (x y : Int) (w : World) (HI : Ints w lo hi (.slice A n c) zs) :
    Calls Try.prog 27 #[.agg #[.int .i64 W, .int .i64 H, .slice A n c], .int .i64 x, .int .i64 y] w (NewImg (Pl.tile ⟨W, H, zs⟩ x y) w) := by
  have bn := HI.bd
  have L := Lib.hid HI.len_eq
  have G := Lib.hid HI
  clear HI
  obtain ⟨i0, hi0, hz0, hz1, hz2⟩ := info_parts Try.infoInt
  cases hok : Pl.imageOk ⟨W, H, zs⟩
  case false =>
    have HV := Lib.hid (show Pl.Img.zero = Pl.tile ⟨W, H, zs⟩ x y by simp [Pl.tile, hok])
    go_enter Try.func27, Try.ntmps27
    go_wp2_with fail
    refine (specImageOk _ _ _ _ _ lo hi zs _ (G.out.step (by go_grown))).mono ?_
    rw [hok]
    rintro e w1 ⟨rfl, hb1⟩
    have ⟨k1, f1, y1⟩ := keep3 hb1 (w.heap.size + 1) (by simp)
    have B1 : Below w.heap.size w w1 := later (by go_grown) hb1
    go_wp2_with fail
    refine bodyPost_ret (v := .agg #[.int .i64 0, .int .i64 0, .slice none 0 0]) (by simp [results, Try.results27, go_sem, k1]) rfl ?_
    rw [← HV.out]
    exact ⟨none, 0, rfl, Own.nil _ _ _ _ _ (Nat.le_refl _), by go_grown⟩
  have hW := Pl.imageOk_t hok
  obtain ⟨⟨W1, W2⟩, ⟨H1, H2⟩, e3, _⟩ := hW
  simp only at W1 W2 H1 H2 e3
  rw [L.out] at e3
  have E3 := Lib.hid e3
  clear e3
  cases hx : Pl.inB x 1 16
  case false =>
    have HV := Lib.hid (show Pl.Img.zero = Pl.tile ⟨W, H, zs⟩ x y by simp [Pl.tile, hx])
    go_enter Try.func27, Try.ntmps27
    go_wp2_with fail
    refine (specImageOk _ _ _ _ _ lo hi zs _ (G.out.step (by go_grown))).mono ?_
    rw [hok]
    rintro e w1 ⟨rfl, hb1⟩
    have ⟨k1, f1, y1⟩ := keep3 hb1 (w.heap.size + 1) (by simp)
    have B1 : Below w.heap.size w w1 := later (by go_grown) hb1
    go_wp2_with (go_at_call 48; ((with_reducible refine (l01In_any _ _ _ _).mono ?_)); rintro e w' ⟨rfl, rfl⟩)
    refine bodyPost_ret (v := .agg #[.int .i64 0, .int .i64 0, .slice none 0 0]) (by simp [results, Try.results27, go_sem, k1]) rfl ?_
    rw [← HV.out]
    exact ⟨none, 0, rfl, Own.nil _ _ _ _ _ (Nat.le_refl _), by go_grown⟩
  cases hy : Pl.inB y 1 16
  case false =>
    have HV := Lib.hid (show Pl.Img.zero = Pl.tile ⟨W, H, zs⟩ x y by simp [Pl.tile, hy])
    go_enter Try.func27, Try.ntmps27
    go_wp2_with fail
    refine (specImageOk _ _ _ _ _ lo hi zs _ (G.out.step (by go_grown))).mono ?_
    rw [hok]
    rintro e w1 ⟨rfl, hb1⟩
    have ⟨k1, f1, y1⟩ := keep3 hb1 (w.heap.size + 1) (by simp)
    have B1 : Below w.heap.size w w1 := later (by go_grown) hb1
    go_wp2_with (go_at_call 48; ((with_reducible refine (l01In_any _ _ _ _).mono ?_)); rintro e w' ⟨rfl, rfl⟩)
    refine bodyPost_ret (v := .agg #[.int .i64 0, .int .i64 0, .slice none 0 0]) (by simp [results, Try.results27, go_sem, k1]) rfl ?_
    rw [← HV.out]
    exact ⟨none, 0, rfl, Own.nil _ _ _ _ _ (Nat.le_refl _), by go_grown⟩
  have ⟨x1, x2⟩ := Pl.inB_t hx
  have ⟨y1, y2⟩ := Pl.inB_t hy
  have HV := Lib.hid (show (⟨x, y, Pl.tab x y (Pl.tileAt ⟨W, H, zs⟩)⟩ : Pl.Img) = Pl.tile ⟨W, H, zs⟩ x y by simp [Pl.tile, hok, hx, hy])
  obtain ⟨X, rfl⟩ := Int.eq_ofNat_of_zero_le (show 0 ≤ x by omega)
  obtain ⟨Y, rfl⟩ := Int.eq_ofNat_of_zero_le (show 0 ≤ y by omega)
  go_enter Try.func27, Try.ntmps27
  go_wp2_with fail
  refine (specImageOk _ _ _ _ _ lo hi zs _ (G.out.step (by go_grown))).mono ?_
  rw [hok]
  rintro e w1 ⟨rfl, hb1⟩
  have XA := Lib.hid (Box.of3 hb1 w.heap.size (by simp; omega) (v0 := .int .i64 W) (v1 := .int .i64 H) (v2 := .slice A n c) (by simp [go_sem]) (by simp [go_sem]) (by simp [go_sem]))
  have ⟨k1, f1, z1⟩ := keep3 hb1 (w.heap.size + 1) (by simp)
  have XR := Lib.hid (Box.of3 hb1 (w.heap.size + 1) (by simp) (v0 := .int .i64 0) (v1 := .int .i64 0) (v2 := .slice none 0 0) (by simp [go_sem]) (by simp [go_sem]) (by simp [go_sem]))
  have fr : ∀ o, w1.frozen? ⟨w.heap.size + 1, o, none⟩ = false := fun o => by rw [f1]; simp [go_sem]
  have FR := Lib.hid fr
  have B1 : Below w.heap.size w w1 := later (by go_grown) hb1
  have s1 := B1.size
  have G1 := Lib.hid (G.out.step B1)
  clear k1 f1 hb1 fr
  go_wp2_with (go_at_call 48; ((with_reducible refine (l01In_any _ _ _ _).mono ?_)); rintro e w' ⟨rfl, rfl⟩)
  have A0 := Acc.start w1 X Y 27
  go_loopw [8] (fun i wr => ∃ q : Nat, q ≤ Y ∧ i = .int .i64 q ∧ Acc w1 wr w1.heap.size X Y (Pl.tabTo X (Pl.tileAt ⟨W, H, zs⟩) (q * X))) (fun i _ => Y - (intOf i).toNat)
  case atStart => exact ⟨0, by omega, rfl, by simpa [Pl.tabTo] using A0⟩
  case round =>
    clear A0
    obtain ⟨q, hq, rfl, hacc⟩ := hrel
    by_cases hlt : q < Y
    · obtain ⟨wo, rfl⟩ : ∃ wo : World, wo = wr := ⟨_, rfl⟩
      go_wp2_with fail
      go_loopw [9] (fun i wr => ∃ p : Nat, p ≤ X ∧ i = .int .i64 p ∧ Acc w1 wr w1.heap.size X Y (Pl.tabTo X (Pl.tileAt ⟨W, H, zs⟩) (q * X + p))) (fun i _ => X - (intOf i).toNat)
      case atStart => exact ⟨0, by omega, rfl, by simpa using hacc⟩
      case round =>
        clear hacc
        obtain ⟨p, hp, rfl, hacc⟩ := hrel
        by_cases hlt2 : p < X
        · obtain ⟨v, hv⟩ := hacc
          have HAV := Lib.hid hv
          obtain ⟨v0, v1, v2, v3, v4, v5, v6⟩ := hv
          have OW := Lib.hid v4
          clear v4
          have ⟨qa0, qa1, qa2, qa3⟩ := (XA.out.below v5 XA.out.1).open3
          have tq : 0 ≤ (q : Int) % H ∧ (q : Int) % H < H := ⟨Int.emod_nonneg _ (by omega), Int.emod_lt_of_pos _ (by omega)⟩
          have tp : 0 ≤ (p : Int) % W ∧ (p : Int) % W < W := ⟨Int.emod_nonneg _ (by omega), Int.emod_lt_of_pos _ (by omega)⟩
          obtain ⟨tq1, tq2⟩ := tq
          obtain ⟨tp1, tp2⟩ := tp
          have ⟨p1, p2, p3, p4⟩ := Pl.place ⟨W1, W2⟩ ⟨H1, H2⟩ (x := (p : Int) % W) (y := (q : Int) % H) ⟨tp1, by omega⟩ ⟨tq1, by omega⟩
          have p5 : (q : Int) % H * W + (p : Int) % W < (n : Int) := by rw [E3.out]; exact p2
          obtain ⟨ix, hixi⟩ := Int.eq_ofNat_of_zero_le p1
          have hix : ((q : Int) % H * W + (p : Int) % W).toNat = ix := by rw [hixi]; simp
          obtain ⟨g, z, rfl, hg, e1, cc⟩ := G1.out.gt (k := ix) (by omega)
          have cc' : wr.cell? ⟨g, ((q : Int) % H * W + (p : Int) % W).toNat, none⟩ = some (.int .i64 z) := by rw [hix]; exact (v5.cell (p := ⟨g, ix, none⟩) hg).trans cc
          have HZ := Lib.hid (show (Pl.tileAt ⟨W, H, zs⟩) p q = z by unfold Pl.tileAt; simp only; rw [hixi]; exact Pl.ix_get e1)
          clear e1 cc hix hixi
          have PB := Lib.hid (Pl.place2 hlt hlt2 (show X ≤ 16 by omega) (show Y ≤ 16 by omega))
          go_wp2_with fail
          have hH0 : (H == 0) = false := by simp; omega
          have hW0 : (W == 0) = false := by simp; omega
          have nH0 : ¬ H = 0 := by omega
          have nW0 : ¬ W = 0 := by omega
          have r1 : (q : Int).tmod H = (q : Int) % H := Int.tmod_eq_emod_of_nonneg (by omega)
          have r2 : (p : Int).tmod W = (p : Int) % W := Int.tmod_eq_emod_of_nonneg (by omega)
          have u1 : IntKind.i64.wrap ((q : Int) % H) = (q : Int) % H := IntWalk.i64_in _ ⟨by omega, by omega⟩
          have u2 : IntKind.i64.wrap ((p : Int) % W) = (p : Int) % W := IntWalk.i64_in _ ⟨by omega, by omega⟩
          have u3 : IntKind.i64.wrap ((q : Int) % H * W) = (q : Int) % H * W := IntWalk.i64_in _ ⟨by omega, by omega⟩
          have u4 : IntKind.i64.wrap ((q : Int) % H * W + (p : Int) % W) = (q : Int) % H * W + (p : Int) % W := IntWalk.i64_in _ ⟨by omega, by omega⟩
          obtain ⟨gg, cap, w2, hrun, hown2, hgrow2, hat2, hlt7⟩ := run_append_lies (P := Try.prog) ((wr.alloc (.cells #[.int .i64 z] 3)).drew) 22 22 (w1.heap.size + 1) 3 i0 (.int .i64 0) 1 8 Try.underlying22 hi0 hz0 hz1 hz2 rfl (by decide) v (Pl.tabTo X (Pl.tileAt ⟨W, H, zs⟩) (q * X + p)).length _ ((OW.out.alloc _).drew) ⟨wr.heap.size, 0, none⟩ 1 1 [.int .i64 z] (by rfl) (World.news_of_block (cs := #[.int .i64 z]) (t := 3) (fr := (0, 0)) (heap_alloc_new wr _)) (one_one _) (by omega) (by rw [Pl.tabTo_length]; unfold maxLen; have := PB.out.1; omega) (by rw [Pl.tabTo_length]; have := PB.out.1; omega) (by simp; omega) (wr.heap.size + 1) (by simp)
          rw [app_fold] at hrun
          have hk2 := grown_keep ((OW.out.alloc _).drew) hgrow2 (by simp; omega)
          have ⟨k2_0, f2_0⟩ := keepc hk2 (w1.heap.size) (by omega)
          have lt9 : w1.heap.size < wr.heap.size := by omega
          go_region
          clear hH0 hW0 nH0 nW0 r1 r2 u1 u2 u3 u4 hrun k2_0 f2_0
          go_wp2_with fail
          have PU := HAV.out.push (wa := (wr.alloc (.cells #[.int .i64 z] 3)).drew) (by go_grown) hown2 hgrow2
          rw [← HZ.out, Pl.tabTo_snoc _ hlt2] at PU
          go_roundw
          case rel => exact ⟨p + 1, by omega, by go_num, PU⟩
          case measure => simp [intOf]; omega
        · obtain rfl : p = X := by omega
          go_wp2_with fail
          go_roundw
          case rel => exact ⟨q + 1, by omega, by go_num, by rw [Nat.add_mul, Nat.one_mul]; exact hacc⟩
          case measure => simp [intOf]; omega
    · obtain rfl : q = Y := by omega
      obtain ⟨v, hv⟩ := hacc
      obtain ⟨A1, c1, rfl⟩ := hv.shape
      obtain ⟨v0, v1, v2, v3, v4, v5, v6⟩ := hv
      have OW := Lib.hid v4
      clear v4
      have ⟨qr0, qr1, qr2, qr3⟩ := (XR.out.below v5 XR.out.1).open3
      have fr0 : wr.frozen? ⟨w.heap.size + 1, 0, none⟩ = false := (v5.frozen (p := ⟨w.heap.size + 1, 0, none⟩) XR.out.1).trans (FR.out 0)
      have fr1 : wr.frozen? ⟨w.heap.size + 1, 1, none⟩ = false := (v5.frozen (p := ⟨w.heap.size + 1, 1, none⟩) XR.out.1).trans (FR.out 1)
      have fr2 : wr.frozen? ⟨w.heap.size + 1, 2, none⟩ = false := (v5.frozen (p := ⟨w.heap.size + 1, 2, none⟩) XR.out.1).trans (FR.out 2)
      have lt9 := XR.out.1
      have B2 : Below w.heap.size w wr := B1.trans (v5.mono (by omega))
      go_wp2_with fail
      refine bodyPost_ret (v := .agg #[.int .i64 (X : Int), .int .i64 (q : Int), .slice A1 (Pl.tabTo X (Pl.tileAt ⟨W, H, zs⟩) (q * X)).length c1]) (by simp [results, Try.results27, go_sem, qr1, qr2, qr3]) rfl ?_
      rw [← HV.out, Pl.tab_nat]
      refine ⟨A1, c1, rfl, ?_, by go_grown⟩
      have h := Own.far (Own.far (Own.far (Own.of_row OW.out) (p := ⟨w.heap.size + 1, 0, none⟩) (.inl (by simp; omega)) (.int .i64 X)) (p := ⟨w.heap.size + 1, 1, none⟩) (.inl (by simp; omega)) (.int .i64 q)) (p := ⟨w.heap.size + 1, 2, none⟩) (.inl (by simp; omega)) (.slice A1 (Pl.tabTo X (Pl.tileAt ⟨W, H, zs⟩) (q * X)).length c1)
      exact Own.mono h (by omega) (by simp [World.setCell]) (by simp [World.setCell])
end Go.Proofs.Ytbgemonpkncldaa
