/- Contracts: CropImage, both sides (written by gencrop.py). -/
import Derived.Test.YtmjjepgnciibcaaMap2
import Derived.Test.YtmjjepgnciibcaaAcc
import Derived.Test.YtmjjepgnciibcaaCopy
import Derived.Test.YtmjjepgnciibcaaCov
import Derived.Test.YtmjjepgnciibcaaOrd
namespace Go.Proofs.Ytmjjepgnciibcaa.Pl
theorem cropOk_t {W H x y a b : Int} {zs : List Int} (h : cropOk ⟨W, H, zs⟩ ⟨x, y, a, b⟩ = true) : imageOk ⟨W, H, zs⟩ = true ∧ rectOk x y a b = true ∧ R.empty ⟨x, y, a, b⟩ = false ∧ covers ⟨0, 0, W, H⟩ ⟨x, y, a, b⟩ = true ∧ 0 ≤ x ∧ 0 ≤ y ∧ 1 ≤ a ∧ 1 ≤ b ∧ x + a ≤ W ∧ y + b ≤ H := by
  simp only [cropOk, Bool.and_eq_true, Bool.not_eq_true'] at h
  obtain ⟨⟨h1, h2⟩, h3⟩ := h
  have h3' := h3
  simp only [covers, Bool.and_eq_true, R.ok] at h3
  obtain ⟨⟨h4, h5⟩, h6⟩ := h3
  rw [h2] at h6
  simp only [Bool.false_or, Bool.and_eq_true, decide_eq_true_eq] at h6
  have h7 := rectOk_t h5
  have h8 := h2
  simp only [R.empty, Bool.or_eq_false_iff, beq_eq_false_iff_ne] at h8
  refine ⟨h1, h5, h2, h3', ?_⟩
  omega
theorem crop_bad {i : Img} {r : R} (h : cropOk i r = false) : Img.zero = crop i r := by unfold crop; rw [h]; rfl
theorem tabTo_row {w : Nat} (f : Nat → Nat → Int) (k : Nat) : tabTo w f (k * w) ++ (List.range w).map (fun x => f x k) = tabTo w f ((k + 1) * w) := by
  have step : ∀ n, n ≤ w → tabTo w f (k * w) ++ (List.range n).map (fun x => f x k) = tabTo w f (k * w + n) := by
    intro n
    induction n with
    | zero => intro _; simp
    | succ n ih =>
      intro hn
      rw [List.range_succ, List.map_append, ← List.append_assoc, ih (by omega), List.map_singleton, tabTo_snoc f (by omega), Nat.add_assoc]
  rw [step w (Nat.le_refl _), Nat.succ_mul]
end Go.Proofs.Ytmjjepgnciibcaa.Pl
namespace Go.Proofs.Ytmjjepgnciibcaa
open Go.RowKit
set_option linter.unusedVariables false
set_option linter.unusedSimpArgs false
theorem one_map2 (zs : List Int) : ∀ v ∈ zs.map (Value.int .i64), v.oneCell' = true := by
  intro v hv
  obtain ⟨z, _, rfl⟩ := List.mem_map.1 hv
  rfl
theorem seg_cells {w : World} {g l0 P : Nat} {f : Nat → Int} (h : ∀ t : Nat, t < P → w.cell? ⟨g, l0 + t, none⟩ = some (.int .i64 (f t))) : ∀ j u, (((List.range P).map f).map (Value.int .i64))[j]? = some u → w.drew.cell? ((⟨g, l0, none⟩ : Addr).add j) = some u := by
  intro j u hu
  have hj : j < P := by have := (List.getElem?_eq_some_iff.1 hu).1; simpa using this
  simp only [List.getElem?_map, List.getElem?_range hj, Option.map_some, Option.some.injEq] at hu
  subst hu
  rw [Addr.add_mid]
  exact h j hj
/-- A new image, and a word. -/
def NewImg2 (i : Pl.Img) (ok : Bool) (w : World) (e : Ending) (w' : World) : Prop := ∃ A c, e = .returned (.tuple #[.agg #[.int .i64 i.w, .int .i64 i.h, .slice A i.d.length c], .bool ok]) ∧ Ints w' w.heap.size w'.heap.size (.slice A i.d.length c) i.d ∧ Below w.heap.size w w'
set_option maxHeartbeats 4000000 in
theorem mapCrop (b1 b2 X Y : Nat) (f : Nat → Nat → Int) (w : World) (x1 : 1 ≤ X) (x2 : X ≤ 16) (y1 : 1 ≤ Y) (y2 : Y ≤ 16)
    (HF : ∀ (x y : Nat) (wr : World), x < X → y < Y → Below w.heap.size w wr → Calls Try.prog 57 #[.int .i64 x, .int .i64 y, .pointer (some ⟨b1, 0, none⟩), .pointer (some ⟨b2, 0, none⟩)] wr fun e w' => e = .returned (.int .i64 (f x y)) ∧ ∃ m, w' = wr.drewN m) :
    Calls Try.prog 56 #[.int .i64 X, .int .i64 Y, .func (.func 57) #[] #[.pointer (some ⟨b1, 0, none⟩), .pointer (some ⟨b2, 0, none⟩)]] w (NewImg ⟨X, Y, Pl.tabTo X f (Y * X)⟩ w) := by
  have HFH := Lib.hid HF
  clear HF
  obtain ⟨i0, hi0, hz0, hz1, hz2⟩ := info_parts Try.infoInt
  have hm0 : X * Y ≤ 256 := by have := Nat.mul_le_mul x2 y2; omega
  have HM := Lib.hid (Int.natCast_mul X Y)
  go_enter Try.func56, Try.ntmps56
  go_wp2_with (at_make; refine wpList_make_own _ rfl _ _ 22 rfl (w.heap.size + 1) 3 i0 (.int .i64 0) 1 Try.underlying22 hi0 hz0 hz1 _ _ _ (X * Y) rfl rfl (by rw [HM.out]) (by rw [hz2]; omega) (by unfold maxLen; omega) (by simp) ?_)
  intro w1 hown hgrow
  have hlt0 : w.heap.size + 1 < w1.heap.size := (hown.lt _ rfl).2
  have hk0 : Below (w.heap.size + 1) (w.alloc (.cells #[.int .i64 0, .int .i64 0, .slice none 0 0] 30)) w1 := ⟨hgrow.os, hgrow.tape, hgrow.output, hgrow.size, fun k hk => hgrow.block k (by simp; omega) (by simp)⟩
  have ⟨kr, fr⟩ := keepc hk0 w.heap.size (by omega)
  have XR := Lib.hid (show Box w1 w.heap.size [.int .i64 0, .int .i64 0, .slice none 0 0] from ⟨by omega, fun o v hv => by
    rw [kr]
    match o, hv with
    | 0, hv => simp at hv; subst hv; simp [go_sem]
    | 1, hv => simp at hv; subst hv; simp [go_sem]
    | 2, hv => simp at hv; subst hv; simp [go_sem]⟩)
  have FR := Lib.hid (show ∀ o, w1.frozen? ⟨w.heap.size, o, none⟩ = false from fun o => by rw [fr]; simp [go_sem])
  have B1 : Below w.heap.size w w1 := (by go_grown : Below w.heap.size w (w.alloc (.cells #[.int .i64 0, .int .i64 0, .slice none 0 0] 30))).trans (hk0.mono (by omega))
  have A0 : AccE w1 (w1.alloc (.cells #[.int .i64 X, .int .i64 Y, .slice (some ⟨w.heap.size + 1, 0, none⟩) 0 (X * Y)] 30)) (w.heap.size + 1) w1.heap.size X Y [] := ⟨_, by simp [go_sem], by simp [go_sem], by simp [go_sem], by simp [go_sem], hown.alloc _, by simp [Value.ownBlock]; omega, by omega, by go_grown, by simp⟩
  clear hown hgrow kr fr hk0
  go_wp2_with fail
  go_loopw [18] (fun i wr => ∃ q : Nat, q ≤ Y ∧ i = .int .i64 q ∧ AccE w1 wr (w.heap.size + 1) w1.heap.size X Y (Pl.tabTo X f (q * X))) (fun i _ => Y - (intOf i).toNat)
  case atStart => exact ⟨0, by omega, rfl, by simpa [Pl.tabTo] using A0⟩
  case round =>
    clear A0
    obtain ⟨q, hq, rfl, hacc⟩ := hrel
    by_cases hlt : q < Y
    · obtain ⟨wo, rfl⟩ : ∃ wo : World, wo = wr := ⟨_, rfl⟩
      go_wp2_with fail
      go_loopw [22] (fun i wr => ∃ p : Nat, p ≤ X ∧ i = .int .i64 p ∧ AccE w1 wr (w.heap.size + 1) w1.heap.size X Y (Pl.tabTo X f (q * X + p))) (fun i _ => X - (intOf i).toNat)
      case atStart => exact ⟨0, by omega, rfl, by simpa using hacc⟩
      case round =>
        clear hacc
        obtain ⟨p, hp, rfl, hacc⟩ := hrel
        by_cases hlt2 : p < X
        · obtain ⟨v, hv⟩ := hacc
          have HAV := Lib.hid hv
          obtain ⟨v0, v1, v2, v3, v4, v5, v6, v7, v8⟩ := hv
          have OW := Lib.hid v4
          have NE := Lib.hid v5
          have BW : Below w.heap.size w wr := B1.trans (v7.mono (by omega))
          have PB := Lib.hid (Pl.place2 hlt hlt2 x2 y2)
          have vd : ∀ k o, ((wr.drewN k).alloc o).cell? ⟨w1.heap.size, 2, none⟩ = some v := fun k o => (cell_old (w := wr.drewN k) v8).trans v2
          clear v4 v5
          go_wp2_with fail
          go_region_law (first
            | (refine step_append_lies _ (by rfl) _ _ _ (by rfl) (w.heap.size + 1) 3 i0 (.int .i64 0) 1 8 Try.underlying22 hi0 hz0 hz1 hz2 rfl (by decide) v (Pl.tabTo X f (q * X + p)).length _ (by rfl) (own_da OW.out) ⟨wr.heap.size, 0, none⟩ 1 1 [.int .i64 (f p q)] (by rfl) (by rfl) news_da (one_one _) (by omega) (by rw [Pl.tabTo_length]; unfold maxLen; have := PB.out.1; omega) (by rw [Pl.tabTo_length]; have := PB.out.1; omega) (by simp; omega) (wr.heap.size + 1) (by simp) ?_; intro gg cap w2 hown2 hgrow2 hat2 hlt7; have ⟨cb2, fb2⟩ := HAV.out.after below_da hgrow2)
            | (go_simp; go_at_call 57; refine (HFH.out p q _ hlt2 hlt (below_drewN BW _)).mono ?_; rintro e w' ⟨rfl, m, rfl⟩)
            | (go_simp; go_at_call 57; refine (HFH.out p q _ hlt2 hlt (Below.drew BW)).mono ?_; rintro e w' ⟨rfl, m, rfl⟩))
          all_goals
            clear cb2 fb2 vd
            go_wp2_with fail
            have PU := HAV.out.push below_da hown2 hgrow2 hat2 (by omega)
            rw [Pl.tabTo_snoc _ hlt2] at PU
            go_roundw
            case rel => exact ⟨p + 1, by omega, by go_num, PU⟩
            case measure => simp [intOf]; omega
        · obtain rfl : p = X := by omega
          go_wp2_with fail
          go_roundw
          case rel => exact ⟨q + 1, by omega, by go_num, by rw [Nat.add_mul, Nat.one_mul]; exact hacc⟩
          case measure => simp [intOf]; omega
    · obtain rfl : q = Y := by omega
      obtain ⟨v, hv⟩ := hacc
      obtain ⟨v0, v1, v2, v3, v4, v5, v6, v7, v8⟩ := hv
      obtain ⟨A1, c1, rfl, _⟩ := (Own.of_row v4).shape
      have OW := Lib.hid v4
      have NE := Lib.hid v5
      clear v4 v5
      have ⟨qr0, qr1, qr2, qr3⟩ := (XR.out.below v7 (by omega)).open3
      have fr0 : wr.frozen? ⟨w.heap.size, 0, none⟩ = false := (v7.frozen (p := ⟨w.heap.size, 0, none⟩) (by simp)).trans (FR.out 0)
      have fr1 : wr.frozen? ⟨w.heap.size, 1, none⟩ = false := (v7.frozen (p := ⟨w.heap.size, 1, none⟩) (by simp)).trans (FR.out 1)
      have fr2 : wr.frozen? ⟨w.heap.size, 2, none⟩ = false := (v7.frozen (p := ⟨w.heap.size, 2, none⟩) (by simp)).trans (FR.out 2)
      have B2 : Below w.heap.size w wr := B1.trans (v7.mono (by omega))
      go_wp2_with fail
      refine bodyPost_ret (v := .agg #[.int .i64 (X : Int), .int .i64 (q : Int), .slice A1 (Pl.tabTo X f (q * X)).length c1]) (by simp [results, Try.results56, go_sem, qr1, qr2, qr3]) rfl ?_
      refine ⟨A1, c1, rfl, ?_, by go_grown⟩
      have h := Own.far (Own.far (Own.far (Own.of_row OW.out) (p := ⟨w.heap.size, 0, none⟩) (.inl (by simp)) (.int .i64 X)) (p := ⟨w.heap.size, 1, none⟩) (.inl (by simp)) (.int .i64 q)) (p := ⟨w.heap.size, 2, none⟩) (.inl (by simp)) (.slice A1 (Pl.tabTo X f (q * X)).length c1)
      exact Own.mono h (by omega) (by simp [World.setCell]) (by simp [World.setCell])
set_option maxHeartbeats 2000000 in
theorem cropFn (W H : Int) (rx ry P Q : Nat) (A : Option Addr) (n c lo hi : Nat) (zs : List Int) (b b2 x y : Nat) (w : World) (XB : Box w b [.int .i64 W, .int .i64 H, .slice A n c]) (X2 : Box w b2 [.int .i64 rx, .int .i64 ry, .int .i64 P, .int .i64 Q]) (HI : Ints w lo hi (.slice A n c) zs) (hok : Pl.imageOk ⟨W, H, zs⟩ = true) (h1 : (rx : Int) + P ≤ W) (h2 : (ry : Int) + Q ≤ H) (hx : x < P) (hy : y < Q) :
    Calls Try.prog 57 #[.int .i64 x, .int .i64 y, .pointer (some ⟨b, 0, none⟩), .pointer (some ⟨b2, 0, none⟩)] w fun e w' => e = .returned (.int .i64 (Pl.cropAt ⟨W, H, zs⟩ ⟨rx, ry, P, Q⟩ x y)) ∧ ∃ m, w' = w.drewN m := by
  have L := Lib.hid HI.len_eq
  have G := Lib.hid HI
  have bn := HI.bd
  clear HI
  obtain ⟨⟨W1, W2⟩, ⟨H1, H2⟩, e3, _⟩ := Pl.imageOk_t hok
  simp only at W1 W2 H1 H2 e3
  rw [L.out] at e3
  have E3 := Lib.hid e3
  clear e3
  have ⟨q0, q1, q2, q3⟩ := XB.open3
  have ⟨r0, r1, r2, r3, r4⟩ := X2.open4
  have ⟨p1, p2, p3, p4⟩ := Pl.place ⟨W1, W2⟩ ⟨H1, H2⟩ (x := (rx : Int) + x) (y := (ry : Int) + y) ⟨by omega, by omega⟩ ⟨by omega, by omega⟩
  have p5 : ((ry : Int) + y) * W + ((rx : Int) + x) < (n : Int) := by rw [E3.out]; exact p2
  obtain ⟨j, hj⟩ : ∃ j : Nat, ((ry : Int) + y) * W = j := ⟨_, (Int.eq_ofNat_of_zero_le p3).choose_spec⟩
  have j1 : j ≤ 256 := by omega
  rw [hj] at p5
  have j2 : j + rx + x < n := by omega
  obtain ⟨g, z, rfl, hg, e1, cc⟩ := G.out.gt (k := j + rx + x) j2
  have HZ := Lib.hid (show z = Pl.cropAt ⟨W, H, zs⟩ ⟨rx, ry, P, Q⟩ x y by
    unfold Pl.cropAt
    simp only
    rw [hj, show (j : Int) + rx + x = ((j + rx + x : Nat) : Int) by omega]
    exact (Pl.ix_get e1).symm)
  clear e1 p1 p2 p3 p4 p5
  go_enter Try.func57, Try.ntmps57
  go_wp2_with fail
  go_ret
  exact ⟨ret_int HZ.out, 0, rfl⟩
set_option maxHeartbeats 8000000 in
theorem implCrop (W H : Int) (A : Option Addr) (n c lo hi : Nat) (zs : List Int) (x y a b : Int) (w : World) (HI : Ints w lo hi (.slice A n c) zs) :
    Calls Try.prog 24 #[.agg #[.int .i64 W, .int .i64 H, .slice A n c], .agg #[.int .i64 x, .int .i64 y, .int .i64 a, .int .i64 b]] w (NewImg2 (Pl.crop ⟨W, H, zs⟩ ⟨x, y, a, b⟩) (Pl.cropOk ⟨W, H, zs⟩ ⟨x, y, a, b⟩) w) := by
  have bn := HI.bd
  have L := Lib.hid HI.len_eq
  have hl := HI.hi_le
  have G := Lib.hid HI
  obtain ⟨_, cap, ec, hnc, _⟩ := HI.shape
  have hnc' : n ≤ c := by injection ec with _ e2 e3; omega
  clear HI ec hnc
  have Bw : Below w.heap.size w w := Below.refl _ _
  have bsw := Bw.size
  obtain ⟨i0, hi0, hz0, hz1, hz2⟩ := info_parts Try.infoInt
  cases hok : Pl.imageOk ⟨W, H, zs⟩
  case false =>
    have hbad : Pl.cropOk ⟨W, H, zs⟩ ⟨x, y, a, b⟩ = false := by simp [Pl.cropOk, hok]
    have HV := Lib.hid (Pl.crop_bad hbad)
    have HK := Lib.hid hbad
    clear hbad
    go_enter Try.func24, Try.ntmps24
    go_wp2_with fail
    have FZ : ∀ o, (((w.alloc (.cells #[.int .i64 W, .int .i64 H, .slice A n c] 30)).alloc (.cells #[.int .i64 x, .int .i64 y, .int .i64 a, .int .i64 b] 50)).alloc (.cells #[.int .i64 0, .int .i64 0, .slice none 0 0] 30)).frozen? ⟨w.heap.size + 1 + 1, o, none⟩ = false := fun o => by simp [go_sem]
    have bv1 : Below w.heap.size w (((w.alloc (.cells #[.int .i64 W, .int .i64 H, .slice A n c] 30)).alloc (.cells #[.int .i64 x, .int .i64 y, .int .i64 a, .int .i64 b] 50)).alloc (.cells #[.int .i64 0, .int .i64 0, .slice none 0 0] 30)) := by go_grown
    have sv1 : w.heap.size + 3 ≤ (((w.alloc (.cells #[.int .i64 W, .int .i64 H, .slice A n c] 30)).alloc (.cells #[.int .i64 x, .int .i64 y, .int .i64 a, .int .i64 b] 50)).alloc (.cells #[.int .i64 0, .int .i64 0, .slice none 0 0] 30)).heap.size := by simp
    have rv1 : (((w.alloc (.cells #[.int .i64 W, .int .i64 H, .slice A n c] 30)).alloc (.cells #[.int .i64 x, .int .i64 y, .int .i64 a, .int .i64 b] 50)).alloc (.cells #[.int .i64 0, .int .i64 0, .slice none 0 0] 30)).heap.size ≤ w.heap.size + 3 := by simp
    have Ziv1 : Box (((w.alloc (.cells #[.int .i64 W, .int .i64 H, .slice A n c] 30)).alloc (.cells #[.int .i64 x, .int .i64 y, .int .i64 a, .int .i64 b] 50)).alloc (.cells #[.int .i64 0, .int .i64 0, .slice none 0 0] 30)) (w.heap.size) [.int .i64 W, .int .i64 H, .slice A n c] := Box.of3 (Below.refl _ _) _ (by first | (simp; done) | (simp; omega)) (by simp [go_sem]) (by simp [go_sem]) (by simp [go_sem])
    have Zrv1 : Box (((w.alloc (.cells #[.int .i64 W, .int .i64 H, .slice A n c] 30)).alloc (.cells #[.int .i64 x, .int .i64 y, .int .i64 a, .int .i64 b] 50)).alloc (.cells #[.int .i64 0, .int .i64 0, .slice none 0 0] 30)) (w.heap.size + 1) [.int .i64 x, .int .i64 y, .int .i64 a, .int .i64 b] := Box.of4 (Below.refl _ _) _ (by first | (simp; done) | (simp; omega)) (by simp [go_sem]) (by simp [go_sem]) (by simp [go_sem]) (by simp [go_sem])
    have Zresv1 : Box (((w.alloc (.cells #[.int .i64 W, .int .i64 H, .slice A n c] 30)).alloc (.cells #[.int .i64 x, .int .i64 y, .int .i64 a, .int .i64 b] 50)).alloc (.cells #[.int .i64 0, .int .i64 0, .slice none 0 0] 30)) (w.heap.size + 1 + 1) [.int .i64 0, .int .i64 0, .slice none 0 0] := Box.of3 (Below.refl _ _) _ (by first | (simp; done) | (simp; omega)) (by simp [go_sem]) (by simp [go_sem]) (by simp [go_sem])
    generalize (((w.alloc (.cells #[.int .i64 W, .int .i64 H, .slice A n c] 30)).alloc (.cells #[.int .i64 x, .int .i64 y, .int .i64 a, .int .i64 b] 50)).alloc (.cells #[.int .i64 0, .int .i64 0, .slice none 0 0] 30)) = v1 at *
    have Bv1 : Below w.heap.size w v1 := Bw.trans (bv1.mono bsw)
    have tv1 := bv1.size
    have bsv1 := Bv1.size
    have Xiv1 := Lib.hid Ziv1
    clear Ziv1
    have Xrv1 := Lib.hid Zrv1
    clear Zrv1
    have Xresv1 := Lib.hid Zresv1
    clear Zresv1
    have ⟨qiv1_0, qiv1_1, qiv1_2, qiv1_3⟩ := Xiv1.out.open3
    have ⟨qrv1_0, qrv1_1, qrv1_2, qrv1_3, qrv1_4⟩ := Xrv1.out.open4
    have ⟨qresv1_0, qresv1_1, qresv1_2, qresv1_3⟩ := Xresv1.out.open3
    have Fv1 := Lib.hid FZ
    clear FZ
    refine regionL (S := (fun w' => w'.cell? ⟨w.heap.size, 0, none⟩ = some (.int .i64 W) ∧ w'.cell? ⟨w.heap.size, 1, none⟩ = some (.int .i64 H) ∧ w'.cell? ⟨w.heap.size, 2, none⟩ = some (.slice A n c) ∧ w'.cell? ⟨w.heap.size + 1, 0, none⟩ = some (.int .i64 x) ∧ w'.cell? ⟨w.heap.size + 1, 1, none⟩ = some (.int .i64 y) ∧ w'.cell? ⟨w.heap.size + 1, 2, none⟩ = some (.int .i64 a) ∧ w'.cell? ⟨w.heap.size + 1, 3, none⟩ = some (.int .i64 b))) (L := 14) (by kernel_rfl) ?_ (fun hHeld => ?_)
    · (((try dsimp only); (repeat' apply And.intro) <;> (first | (simp only [World.cell?_drew, *]; done) | (simp (disch := (first | omega | (simp; omega))) only [cell_far, cell_old, World.cell?_drew, *]; done))))
    refine takeL (i := 0) (oi := ?_) (v := ?_) ?_ (by kernel_rfl) (by kernel_rfl) (by kernel_rfl) (by kernel_rfl) ?_ (Or.inl ⟨?_, ?_⟩) (by assumption) ?_
    rotate_left 2
    · (simp only [List.getElem?_toArray, List.getElem?_cons_succ, List.getElem?_cons_zero]; rfl)
    · exact fun _ _ _ h => h
    · rfl
    · (intro w hSw; (try dsimp only at hSw); go_simp; (try with_reducible rfl))
    try simp only [Act.put, List.setIfInBounds_toArray, List.set_cons_zero, List.set_cons_succ]
    refine readyL (rs := [1]) (by kernel_rfl) (by simp) ?_
    refine AllReadyL.cons (o := ?_) ?_ (fun K hK => ?_) AllReadyL.none_
    rotate_left
    · (simp only [List.getElem?_toArray, List.getElem?_cons_succ, List.getElem?_cons_zero]; rfl)
    go_simp
    go_at_call 32
    ((with_reducible refine (implImageOk _ _ _ _ _ lo hi zs _ (G.out.step (by go_grown))).mono ?_))
    rw [hok]
    rintro e w2 ⟨rfl, hbw2⟩
    have bw2 : Below v1.heap.size v1 w2 := later (by go_grown) hbw2
    have Bw2 : Below w.heap.size w w2 := Bv1.trans (bw2.mono bsv1)
    have sw2 := hbw2.size
    (try simp at sw2)
    have tw2 := bw2.size
    have bsw2 := Bw2.size
    have Xiw2 := Lib.hid (Xiv1.out.step bw2)
    clear Xiv1 qiv1_0 qiv1_1 qiv1_2 qiv1_3
    have Xrw2 := Lib.hid (Xrv1.out.step bw2)
    clear Xrv1 qrv1_0 qrv1_1 qrv1_2 qrv1_3 qrv1_4
    have Xresw2 := Lib.hid (Xresv1.out.step bw2)
    clear Xresv1 qresv1_0 qresv1_1 qresv1_2 qresv1_3
    have ⟨qiw2_0, qiw2_1, qiw2_2, qiw2_3⟩ := Xiw2.out.open3
    have ⟨qrw2_0, qrw2_1, qrw2_2, qrw2_3, qrw2_4⟩ := Xrw2.out.open4
    have ⟨qresw2_0, qresw2_1, qresw2_2, qresw2_3⟩ := Xresw2.out.open3
    have Fw2 := Lib.hid (show ∀ o, w2.frozen? ⟨w.heap.size + 1 + 1, o, none⟩ = false from fun o => (bw2.frozen (p := ⟨w.heap.size + 1 + 1, o, none⟩) (by show w.heap.size + 1 + 1 < _; omega)).trans (Fv1.out o))
    clear Fv1
    refine hK.out _ _ ?_ (fun hHeld => ?_)
    · (((try dsimp only); (repeat' apply And.intro) <;> (first | (simp only [World.cell?_drew, *]; done) | (simp (disch := (first | omega | (simp; omega))) only [cell_far, cell_old, World.cell?_drew, *]; done))))
    clear hK K
    try simp only [Act.put, List.setIfInBounds_toArray, List.set_cons_zero, List.set_cons_succ]
    refine takeL (i := 2) (oi := ?_) (v := ?_) ?_ (by kernel_rfl) (by kernel_rfl) (by kernel_rfl) (by kernel_rfl) ?_ (Or.inl ⟨?_, ?_⟩) (by assumption) ?_
    rotate_left 2
    · (simp only [List.getElem?_toArray, List.getElem?_cons_succ, List.getElem?_cons_zero]; rfl)
    · exact fun _ _ _ h => h
    · rfl
    · (intro w hSw; (try dsimp only at hSw); go_simp; (try with_reducible rfl))
    try simp only [Act.put, List.setIfInBounds_toArray, List.set_cons_zero, List.set_cons_succ]
    refine takeL (i := 3) (oi := ?_) (v := ?_) ?_ (by kernel_rfl) (by kernel_rfl) (by kernel_rfl) (by kernel_rfl) ?_ (Or.inl ⟨?_, ?_⟩) (by assumption) ?_
    rotate_left 2
    · (simp only [List.getElem?_toArray, List.getElem?_cons_succ, List.getElem?_cons_zero]; rfl)
    · exact fun _ _ _ h => h
    · rfl
    · (intro w hSw; (try dsimp only at hSw); go_simp; (try with_reducible rfl))
    try simp only [Act.put, List.setIfInBounds_toArray, List.set_cons_zero, List.set_cons_succ]
    refine takeL (i := 4) (oi := ?_) (v := undef) ?_ (by kernel_rfl) (by kernel_rfl) (by kernel_rfl) (by kernel_rfl) ?_ ?_ (by assumption) ?_
    rotate_left
    · (simp only [List.getElem?_toArray, List.getElem?_cons_succ, List.getElem?_cons_zero]; rfl)
    · exact fun _ _ _ h => h
    · exact Or.inr ⟨by rfl, rfl⟩
    try simp only [Act.put, List.setIfInBounds_toArray, List.set_cons_zero, List.set_cons_succ]
    refine takeL (i := 5) (oi := ?_) (v := undef) ?_ (by kernel_rfl) (by kernel_rfl) (by kernel_rfl) (by kernel_rfl) ?_ ?_ (by assumption) ?_
    rotate_left
    · (simp only [List.getElem?_toArray, List.getElem?_cons_succ, List.getElem?_cons_zero]; rfl)
    · exact fun _ _ _ h => h
    · exact Or.inr ⟨by rfl, rfl⟩
    try simp only [Act.put, List.setIfInBounds_toArray, List.set_cons_zero, List.set_cons_succ]
    refine takeL (i := 6) (oi := ?_) (v := ?_) ?_ (by kernel_rfl) (by kernel_rfl) (by kernel_rfl) (by kernel_rfl) ?_ (Or.inl ⟨?_, ?_⟩) (by assumption) ?_
    rotate_left 2
    · (simp only [List.getElem?_toArray, List.getElem?_cons_succ, List.getElem?_cons_zero]; rfl)
    · exact fun _ _ _ h => h
    · rfl
    · (intro w hSw; (try dsimp only at hSw); go_simp; (try with_reducible rfl))
    try simp only [Act.put, List.setIfInBounds_toArray, List.set_cons_zero, List.set_cons_succ]
    refine takeL (i := 7) (oi := ?_) (v := ?_) ?_ (by kernel_rfl) (by kernel_rfl) (by kernel_rfl) (by kernel_rfl) ?_ (Or.inl ⟨?_, ?_⟩) (by assumption) ?_
    rotate_left 2
    · (simp only [List.getElem?_toArray, List.getElem?_cons_succ, List.getElem?_cons_zero]; rfl)
    · exact fun _ _ _ h => h
    · rfl
    · (intro w hSw; (try dsimp only at hSw); go_simp; (try with_reducible rfl))
    try simp only [Act.put, List.setIfInBounds_toArray, List.set_cons_zero, List.set_cons_succ]
    refine takeL (i := 8) (oi := ?_) (v := undef) ?_ (by kernel_rfl) (by kernel_rfl) (by kernel_rfl) (by kernel_rfl) ?_ ?_ (by assumption) ?_
    rotate_left
    · (simp only [List.getElem?_toArray, List.getElem?_cons_succ, List.getElem?_cons_zero]; rfl)
    · exact fun _ _ _ h => h
    · exact Or.inr ⟨by rfl, rfl⟩
    try simp only [Act.put, List.setIfInBounds_toArray, List.set_cons_zero, List.set_cons_succ]
    refine takeL (i := 9) (oi := ?_) (v := undef) ?_ (by kernel_rfl) (by kernel_rfl) (by kernel_rfl) (by kernel_rfl) ?_ ?_ (by assumption) ?_
    rotate_left
    · (simp only [List.getElem?_toArray, List.getElem?_cons_succ, List.getElem?_cons_zero]; rfl)
    · exact fun _ _ _ h => h
    · exact Or.inr ⟨by rfl, rfl⟩
    try simp only [Act.put, List.setIfInBounds_toArray, List.set_cons_zero, List.set_cons_succ]
    refine takeL (i := 10) (oi := ?_) (v := undef) ?_ (by kernel_rfl) (by kernel_rfl) (by kernel_rfl) (by kernel_rfl) ?_ ?_ (by assumption) ?_
    rotate_left
    · (simp only [List.getElem?_toArray, List.getElem?_cons_succ, List.getElem?_cons_zero]; rfl)
    · exact fun _ _ _ h => h
    · exact Or.inr ⟨by rfl, rfl⟩
    try simp only [Act.put, List.setIfInBounds_toArray, List.set_cons_zero, List.set_cons_succ]
    refine takeL (i := 11) (oi := ?_) (v := undef) ?_ (by kernel_rfl) (by kernel_rfl) (by kernel_rfl) (by kernel_rfl) ?_ ?_ (by assumption) ?_
    rotate_left
    · (simp only [List.getElem?_toArray, List.getElem?_cons_succ, List.getElem?_cons_zero]; rfl)
    · exact fun _ _ _ h => h
    · exact Or.inr ⟨by rfl, rfl⟩
    try simp only [Act.put, List.setIfInBounds_toArray, List.set_cons_zero, List.set_cons_succ]
    refine takeL (i := 12) (oi := ?_) (v := undef) ?_ (by kernel_rfl) (by kernel_rfl) (by kernel_rfl) (by kernel_rfl) ?_ ?_ (by assumption) ?_
    rotate_left
    · (simp only [List.getElem?_toArray, List.getElem?_cons_succ, List.getElem?_cons_zero]; rfl)
    · exact fun _ _ _ h => h
    · exact Or.inr ⟨by rfl, rfl⟩
    try simp only [Act.put, List.setIfInBounds_toArray, List.set_cons_zero, List.set_cons_succ]
    refine takeL (i := 13) (oi := ?_) (v := ?_) ?_ (by kernel_rfl) (by kernel_rfl) (by kernel_rfl) (by kernel_rfl) ?_ (Or.inl ⟨?_, ?_⟩) (by assumption) ?_
    rotate_left 2
    · (simp only [List.getElem?_toArray, List.getElem?_cons_succ, List.getElem?_cons_zero]; rfl)
    · exact fun _ _ _ h => h
    · rfl
    · (intro w hSw; (try dsimp only at hSw); go_simp; (try with_reducible rfl))
    try simp only [Act.put, List.setIfInBounds_toArray, List.set_cons_zero, List.set_cons_succ]
    refine doneL (by kernel_rfl) ?_ _
    have fr0 := Fw2.out 0
    have fr1 := Fw2.out 1
    have fr2 := Fw2.out 2
    go_wp2_with fail
    refine bodyPost_ret (v := .tuple #[.agg #[.int .i64 0, .int .i64 0, .slice none 0 0], .bool false]) (by simp [results, Try.results24, go_sem, qresw2_1, qresw2_2, qresw2_3]) rfl ?_
    have HV2 := HV.out
    have HK2 := HK.out
    have B9 := Bw2
    unfold NewImg2
    rw [← HV2, HK2]
    exact ⟨none, 0, rfl, Own.nil _ _ _ _ _ (Nat.le_refl _), by go_grown⟩
  cases he : Pl.R.empty ⟨x, y, a, b⟩
  case true =>
    have hbad : Pl.cropOk ⟨W, H, zs⟩ ⟨x, y, a, b⟩ = false := by simp [Pl.cropOk, he]
    have HV := Lib.hid (Pl.crop_bad hbad)
    have HK := Lib.hid hbad
    clear hbad
    go_enter Try.func24, Try.ntmps24
    go_wp2_with fail
    have FZ : ∀ o, (((w.alloc (.cells #[.int .i64 W, .int .i64 H, .slice A n c] 30)).alloc (.cells #[.int .i64 x, .int .i64 y, .int .i64 a, .int .i64 b] 50)).alloc (.cells #[.int .i64 0, .int .i64 0, .slice none 0 0] 30)).frozen? ⟨w.heap.size + 1 + 1, o, none⟩ = false := fun o => by simp [go_sem]
    have bv1 : Below w.heap.size w (((w.alloc (.cells #[.int .i64 W, .int .i64 H, .slice A n c] 30)).alloc (.cells #[.int .i64 x, .int .i64 y, .int .i64 a, .int .i64 b] 50)).alloc (.cells #[.int .i64 0, .int .i64 0, .slice none 0 0] 30)) := by go_grown
    have sv1 : w.heap.size + 3 ≤ (((w.alloc (.cells #[.int .i64 W, .int .i64 H, .slice A n c] 30)).alloc (.cells #[.int .i64 x, .int .i64 y, .int .i64 a, .int .i64 b] 50)).alloc (.cells #[.int .i64 0, .int .i64 0, .slice none 0 0] 30)).heap.size := by simp
    have rv1 : (((w.alloc (.cells #[.int .i64 W, .int .i64 H, .slice A n c] 30)).alloc (.cells #[.int .i64 x, .int .i64 y, .int .i64 a, .int .i64 b] 50)).alloc (.cells #[.int .i64 0, .int .i64 0, .slice none 0 0] 30)).heap.size ≤ w.heap.size + 3 := by simp
    have Ziv1 : Box (((w.alloc (.cells #[.int .i64 W, .int .i64 H, .slice A n c] 30)).alloc (.cells #[.int .i64 x, .int .i64 y, .int .i64 a, .int .i64 b] 50)).alloc (.cells #[.int .i64 0, .int .i64 0, .slice none 0 0] 30)) (w.heap.size) [.int .i64 W, .int .i64 H, .slice A n c] := Box.of3 (Below.refl _ _) _ (by first | (simp; done) | (simp; omega)) (by simp [go_sem]) (by simp [go_sem]) (by simp [go_sem])
    have Zrv1 : Box (((w.alloc (.cells #[.int .i64 W, .int .i64 H, .slice A n c] 30)).alloc (.cells #[.int .i64 x, .int .i64 y, .int .i64 a, .int .i64 b] 50)).alloc (.cells #[.int .i64 0, .int .i64 0, .slice none 0 0] 30)) (w.heap.size + 1) [.int .i64 x, .int .i64 y, .int .i64 a, .int .i64 b] := Box.of4 (Below.refl _ _) _ (by first | (simp; done) | (simp; omega)) (by simp [go_sem]) (by simp [go_sem]) (by simp [go_sem]) (by simp [go_sem])
    have Zresv1 : Box (((w.alloc (.cells #[.int .i64 W, .int .i64 H, .slice A n c] 30)).alloc (.cells #[.int .i64 x, .int .i64 y, .int .i64 a, .int .i64 b] 50)).alloc (.cells #[.int .i64 0, .int .i64 0, .slice none 0 0] 30)) (w.heap.size + 1 + 1) [.int .i64 0, .int .i64 0, .slice none 0 0] := Box.of3 (Below.refl _ _) _ (by first | (simp; done) | (simp; omega)) (by simp [go_sem]) (by simp [go_sem]) (by simp [go_sem])
    generalize (((w.alloc (.cells #[.int .i64 W, .int .i64 H, .slice A n c] 30)).alloc (.cells #[.int .i64 x, .int .i64 y, .int .i64 a, .int .i64 b] 50)).alloc (.cells #[.int .i64 0, .int .i64 0, .slice none 0 0] 30)) = v1 at *
    have Bv1 : Below w.heap.size w v1 := Bw.trans (bv1.mono bsw)
    have tv1 := bv1.size
    have bsv1 := Bv1.size
    have Xiv1 := Lib.hid Ziv1
    clear Ziv1
    have Xrv1 := Lib.hid Zrv1
    clear Zrv1
    have Xresv1 := Lib.hid Zresv1
    clear Zresv1
    have ⟨qiv1_0, qiv1_1, qiv1_2, qiv1_3⟩ := Xiv1.out.open3
    have ⟨qrv1_0, qrv1_1, qrv1_2, qrv1_3, qrv1_4⟩ := Xrv1.out.open4
    have ⟨qresv1_0, qresv1_1, qresv1_2, qresv1_3⟩ := Xresv1.out.open3
    have Fv1 := Lib.hid FZ
    clear FZ
    refine regionL (S := (fun w' => w'.cell? ⟨w.heap.size, 0, none⟩ = some (.int .i64 W) ∧ w'.cell? ⟨w.heap.size, 1, none⟩ = some (.int .i64 H) ∧ w'.cell? ⟨w.heap.size, 2, none⟩ = some (.slice A n c) ∧ w'.cell? ⟨w.heap.size + 1, 0, none⟩ = some (.int .i64 x) ∧ w'.cell? ⟨w.heap.size + 1, 1, none⟩ = some (.int .i64 y) ∧ w'.cell? ⟨w.heap.size + 1, 2, none⟩ = some (.int .i64 a) ∧ w'.cell? ⟨w.heap.size + 1, 3, none⟩ = some (.int .i64 b))) (L := 14) (by kernel_rfl) ?_ (fun hHeld => ?_)
    · (((try dsimp only); (repeat' apply And.intro) <;> (first | (simp only [World.cell?_drew, *]; done) | (simp (disch := (first | omega | (simp; omega))) only [cell_far, cell_old, World.cell?_drew, *]; done))))
    refine takeL (i := 0) (oi := ?_) (v := ?_) ?_ (by kernel_rfl) (by kernel_rfl) (by kernel_rfl) (by kernel_rfl) ?_ (Or.inl ⟨?_, ?_⟩) (by assumption) ?_
    rotate_left 2
    · (simp only [List.getElem?_toArray, List.getElem?_cons_succ, List.getElem?_cons_zero]; rfl)
    · exact fun _ _ _ h => h
    · rfl
    · (intro w hSw; (try dsimp only at hSw); go_simp; (try with_reducible rfl))
    try simp only [Act.put, List.setIfInBounds_toArray, List.set_cons_zero, List.set_cons_succ]
    refine readyL (rs := [1]) (by kernel_rfl) (by simp) ?_
    refine AllReadyL.cons (o := ?_) ?_ (fun K hK => ?_) AllReadyL.none_
    rotate_left
    · (simp only [List.getElem?_toArray, List.getElem?_cons_succ, List.getElem?_cons_zero]; rfl)
    go_simp
    go_at_call 32
    ((with_reducible refine (implImageOk _ _ _ _ _ lo hi zs _ (G.out.step (by go_grown))).mono ?_))
    rw [hok]
    rintro e w2 ⟨rfl, hbw2⟩
    have bw2 : Below v1.heap.size v1 w2 := later (by go_grown) hbw2
    have Bw2 : Below w.heap.size w w2 := Bv1.trans (bw2.mono bsv1)
    have sw2 := hbw2.size
    (try simp at sw2)
    have tw2 := bw2.size
    have bsw2 := Bw2.size
    have Xiw2 := Lib.hid (Xiv1.out.step bw2)
    clear Xiv1 qiv1_0 qiv1_1 qiv1_2 qiv1_3
    have Xrw2 := Lib.hid (Xrv1.out.step bw2)
    clear Xrv1 qrv1_0 qrv1_1 qrv1_2 qrv1_3 qrv1_4
    have Xresw2 := Lib.hid (Xresv1.out.step bw2)
    clear Xresv1 qresv1_0 qresv1_1 qresv1_2 qresv1_3
    have ⟨qiw2_0, qiw2_1, qiw2_2, qiw2_3⟩ := Xiw2.out.open3
    have ⟨qrw2_0, qrw2_1, qrw2_2, qrw2_3, qrw2_4⟩ := Xrw2.out.open4
    have ⟨qresw2_0, qresw2_1, qresw2_2, qresw2_3⟩ := Xresw2.out.open3
    have Fw2 := Lib.hid (show ∀ o, w2.frozen? ⟨w.heap.size + 1 + 1, o, none⟩ = false from fun o => (bw2.frozen (p := ⟨w.heap.size + 1 + 1, o, none⟩) (by show w.heap.size + 1 + 1 < _; omega)).trans (Fv1.out o))
    clear Fv1
    refine hK.out _ _ ?_ (fun hHeld => ?_)
    · (((try dsimp only); (repeat' apply And.intro) <;> (first | (simp only [World.cell?_drew, *]; done) | (simp (disch := (first | omega | (simp; omega))) only [cell_far, cell_old, World.cell?_drew, *]; done))))
    clear hK K
    try simp only [Act.put, List.setIfInBounds_toArray, List.set_cons_zero, List.set_cons_succ]
    refine takeL (i := 2) (oi := ?_) (v := ?_) ?_ (by kernel_rfl) (by kernel_rfl) (by kernel_rfl) (by kernel_rfl) ?_ (Or.inl ⟨?_, ?_⟩) (by assumption) ?_
    rotate_left 2
    · (simp only [List.getElem?_toArray, List.getElem?_cons_succ, List.getElem?_cons_zero]; rfl)
    · exact fun _ _ _ h => h
    · rfl
    · (intro w hSw; (try dsimp only at hSw); go_simp; (try with_reducible rfl))
    try simp only [Act.put, List.setIfInBounds_toArray, List.set_cons_zero, List.set_cons_succ]
    refine takeL (i := 3) (oi := ?_) (v := ?_) ?_ (by kernel_rfl) (by kernel_rfl) (by kernel_rfl) (by kernel_rfl) ?_ (Or.inl ⟨?_, ?_⟩) (by assumption) ?_
    rotate_left 2
    · (simp only [List.getElem?_toArray, List.getElem?_cons_succ, List.getElem?_cons_zero]; rfl)
    · exact fun _ _ _ h => h
    · rfl
    · (intro w hSw; (try dsimp only at hSw); go_simp; (try with_reducible rfl))
    try simp only [Act.put, List.setIfInBounds_toArray, List.set_cons_zero, List.set_cons_succ]
    refine takeL (i := 4) (oi := ?_) (v := ?_) ?_ (by kernel_rfl) (by kernel_rfl) (by kernel_rfl) (by kernel_rfl) ?_ (Or.inl ⟨?_, ?_⟩) (by assumption) ?_
    rotate_left 2
    · (simp only [List.getElem?_toArray, List.getElem?_cons_succ, List.getElem?_cons_zero]; rfl)
    · exact fun _ _ _ h => h
    · rfl
    · (intro w hSw; (try dsimp only at hSw); go_simp; (try with_reducible rfl))
    try simp only [Act.put, List.setIfInBounds_toArray, List.set_cons_zero, List.set_cons_succ]
    refine readyL (rs := [5]) (by kernel_rfl) (by simp) ?_
    refine AllReadyL.cons (o := ?_) ?_ (fun K hK => ?_) AllReadyL.none_
    rotate_left
    · (simp only [List.getElem?_toArray, List.getElem?_cons_succ, List.getElem?_cons_zero]; rfl)
    go_simp
    go_at_call 53
    ((with_reducible refine (isEmpty_any x y a b _).mono ?_))
    rw [he]
    rintro e w3 ⟨rfl, hbw3⟩
    have bw3 : Below w2.heap.size w2 w3 := later (by go_grown) hbw3
    have Bw3 : Below w.heap.size w w3 := Bw2.trans (bw3.mono bsw2)
    have sw3 := hbw3.size
    (try simp at sw3)
    have tw3 := bw3.size
    have bsw3 := Bw3.size
    have Xiw3 := Lib.hid (Xiw2.out.step bw3)
    clear Xiw2 qiw2_0 qiw2_1 qiw2_2 qiw2_3
    have Xrw3 := Lib.hid (Xrw2.out.step bw3)
    clear Xrw2 qrw2_0 qrw2_1 qrw2_2 qrw2_3 qrw2_4
    have Xresw3 := Lib.hid (Xresw2.out.step bw3)
    clear Xresw2 qresw2_0 qresw2_1 qresw2_2 qresw2_3
    have ⟨qiw3_0, qiw3_1, qiw3_2, qiw3_3⟩ := Xiw3.out.open3
    have ⟨qrw3_0, qrw3_1, qrw3_2, qrw3_3, qrw3_4⟩ := Xrw3.out.open4
    have ⟨qresw3_0, qresw3_1, qresw3_2, qresw3_3⟩ := Xresw3.out.open3
    have Fw3 := Lib.hid (show ∀ o, w3.frozen? ⟨w.heap.size + 1 + 1, o, none⟩ = false from fun o => (bw3.frozen (p := ⟨w.heap.size + 1 + 1, o, none⟩) (by show w.heap.size + 1 + 1 < _; omega)).trans (Fw2.out o))
    clear Fw2
    refine hK.out _ _ ?_ (fun hHeld => ?_)
    · (((try dsimp only); (repeat' apply And.intro) <;> (first | (simp only [World.cell?_drew, *]; done) | (simp (disch := (first | omega | (simp; omega))) only [cell_far, cell_old, World.cell?_drew, *]; done))))
    clear hK K
    try simp only [Act.put, List.setIfInBounds_toArray, List.set_cons_zero, List.set_cons_succ]
    refine takeL (i := 6) (oi := ?_) (v := ?_) ?_ (by kernel_rfl) (by kernel_rfl) (by kernel_rfl) (by kernel_rfl) ?_ (Or.inl ⟨?_, ?_⟩) (by assumption) ?_
    rotate_left 2
    · (simp only [List.getElem?_toArray, List.getElem?_cons_succ, List.getElem?_cons_zero]; rfl)
    · exact fun _ _ _ h => h
    · rfl
    · (intro w hSw; (try dsimp only at hSw); go_simp; (try with_reducible rfl))
    try simp only [Act.put, List.setIfInBounds_toArray, List.set_cons_zero, List.set_cons_succ]
    refine takeL (i := 7) (oi := ?_) (v := ?_) ?_ (by kernel_rfl) (by kernel_rfl) (by kernel_rfl) (by kernel_rfl) ?_ (Or.inl ⟨?_, ?_⟩) (by assumption) ?_
    rotate_left 2
    · (simp only [List.getElem?_toArray, List.getElem?_cons_succ, List.getElem?_cons_zero]; rfl)
    · exact fun _ _ _ h => h
    · rfl
    · (intro w hSw; (try dsimp only at hSw); go_simp; (try with_reducible rfl))
    try simp only [Act.put, List.setIfInBounds_toArray, List.set_cons_zero, List.set_cons_succ]
    refine takeL (i := 8) (oi := ?_) (v := undef) ?_ (by kernel_rfl) (by kernel_rfl) (by kernel_rfl) (by kernel_rfl) ?_ ?_ (by assumption) ?_
    rotate_left
    · (simp only [List.getElem?_toArray, List.getElem?_cons_succ, List.getElem?_cons_zero]; rfl)
    · exact fun _ _ _ h => h
    · exact Or.inr ⟨by rfl, rfl⟩
    try simp only [Act.put, List.setIfInBounds_toArray, List.set_cons_zero, List.set_cons_succ]
    refine takeL (i := 9) (oi := ?_) (v := undef) ?_ (by kernel_rfl) (by kernel_rfl) (by kernel_rfl) (by kernel_rfl) ?_ ?_ (by assumption) ?_
    rotate_left
    · (simp only [List.getElem?_toArray, List.getElem?_cons_succ, List.getElem?_cons_zero]; rfl)
    · exact fun _ _ _ h => h
    · exact Or.inr ⟨by rfl, rfl⟩
    try simp only [Act.put, List.setIfInBounds_toArray, List.set_cons_zero, List.set_cons_succ]
    refine takeL (i := 10) (oi := ?_) (v := undef) ?_ (by kernel_rfl) (by kernel_rfl) (by kernel_rfl) (by kernel_rfl) ?_ ?_ (by assumption) ?_
    rotate_left
    · (simp only [List.getElem?_toArray, List.getElem?_cons_succ, List.getElem?_cons_zero]; rfl)
    · exact fun _ _ _ h => h
    · exact Or.inr ⟨by rfl, rfl⟩
    try simp only [Act.put, List.setIfInBounds_toArray, List.set_cons_zero, List.set_cons_succ]
    refine takeL (i := 11) (oi := ?_) (v := undef) ?_ (by kernel_rfl) (by kernel_rfl) (by kernel_rfl) (by kernel_rfl) ?_ ?_ (by assumption) ?_
    rotate_left
    · (simp only [List.getElem?_toArray, List.getElem?_cons_succ, List.getElem?_cons_zero]; rfl)
    · exact fun _ _ _ h => h
    · exact Or.inr ⟨by rfl, rfl⟩
    try simp only [Act.put, List.setIfInBounds_toArray, List.set_cons_zero, List.set_cons_succ]
    refine takeL (i := 12) (oi := ?_) (v := undef) ?_ (by kernel_rfl) (by kernel_rfl) (by kernel_rfl) (by kernel_rfl) ?_ ?_ (by assumption) ?_
    rotate_left
    · (simp only [List.getElem?_toArray, List.getElem?_cons_succ, List.getElem?_cons_zero]; rfl)
    · exact fun _ _ _ h => h
    · exact Or.inr ⟨by rfl, rfl⟩
    try simp only [Act.put, List.setIfInBounds_toArray, List.set_cons_zero, List.set_cons_succ]
    refine takeL (i := 13) (oi := ?_) (v := ?_) ?_ (by kernel_rfl) (by kernel_rfl) (by kernel_rfl) (by kernel_rfl) ?_ (Or.inl ⟨?_, ?_⟩) (by assumption) ?_
    rotate_left 2
    · (simp only [List.getElem?_toArray, List.getElem?_cons_succ, List.getElem?_cons_zero]; rfl)
    · exact fun _ _ _ h => h
    · rfl
    · (intro w hSw; (try dsimp only at hSw); go_simp; (try with_reducible rfl))
    try simp only [Act.put, List.setIfInBounds_toArray, List.set_cons_zero, List.set_cons_succ]
    refine doneL (by kernel_rfl) ?_ _
    have fr0 := Fw3.out 0
    have fr1 := Fw3.out 1
    have fr2 := Fw3.out 2
    go_wp2_with fail
    refine bodyPost_ret (v := .tuple #[.agg #[.int .i64 0, .int .i64 0, .slice none 0 0], .bool false]) (by simp [results, Try.results24, go_sem, qresw3_1, qresw3_2, qresw3_3]) rfl ?_
    have HV2 := HV.out
    have HK2 := HK.out
    have B9 := Bw3
    unfold NewImg2
    rw [← HV2, HK2]
    exact ⟨none, 0, rfl, Own.nil _ _ _ _ _ (Nat.le_refl _), by go_grown⟩
  cases hc : Pl.covers ⟨0, 0, W, H⟩ ⟨x, y, a, b⟩
  case false =>
    have hbad : Pl.cropOk ⟨W, H, zs⟩ ⟨x, y, a, b⟩ = false := by simp [Pl.cropOk, hc]
    have HV := Lib.hid (Pl.crop_bad hbad)
    have HK := Lib.hid hbad
    clear hbad
    go_enter Try.func24, Try.ntmps24
    go_wp2_with fail
    have FZ : ∀ o, (((w.alloc (.cells #[.int .i64 W, .int .i64 H, .slice A n c] 30)).alloc (.cells #[.int .i64 x, .int .i64 y, .int .i64 a, .int .i64 b] 50)).alloc (.cells #[.int .i64 0, .int .i64 0, .slice none 0 0] 30)).frozen? ⟨w.heap.size + 1 + 1, o, none⟩ = false := fun o => by simp [go_sem]
    have bv1 : Below w.heap.size w (((w.alloc (.cells #[.int .i64 W, .int .i64 H, .slice A n c] 30)).alloc (.cells #[.int .i64 x, .int .i64 y, .int .i64 a, .int .i64 b] 50)).alloc (.cells #[.int .i64 0, .int .i64 0, .slice none 0 0] 30)) := by go_grown
    have sv1 : w.heap.size + 3 ≤ (((w.alloc (.cells #[.int .i64 W, .int .i64 H, .slice A n c] 30)).alloc (.cells #[.int .i64 x, .int .i64 y, .int .i64 a, .int .i64 b] 50)).alloc (.cells #[.int .i64 0, .int .i64 0, .slice none 0 0] 30)).heap.size := by simp
    have rv1 : (((w.alloc (.cells #[.int .i64 W, .int .i64 H, .slice A n c] 30)).alloc (.cells #[.int .i64 x, .int .i64 y, .int .i64 a, .int .i64 b] 50)).alloc (.cells #[.int .i64 0, .int .i64 0, .slice none 0 0] 30)).heap.size ≤ w.heap.size + 3 := by simp
    have Ziv1 : Box (((w.alloc (.cells #[.int .i64 W, .int .i64 H, .slice A n c] 30)).alloc (.cells #[.int .i64 x, .int .i64 y, .int .i64 a, .int .i64 b] 50)).alloc (.cells #[.int .i64 0, .int .i64 0, .slice none 0 0] 30)) (w.heap.size) [.int .i64 W, .int .i64 H, .slice A n c] := Box.of3 (Below.refl _ _) _ (by first | (simp; done) | (simp; omega)) (by simp [go_sem]) (by simp [go_sem]) (by simp [go_sem])
    have Zrv1 : Box (((w.alloc (.cells #[.int .i64 W, .int .i64 H, .slice A n c] 30)).alloc (.cells #[.int .i64 x, .int .i64 y, .int .i64 a, .int .i64 b] 50)).alloc (.cells #[.int .i64 0, .int .i64 0, .slice none 0 0] 30)) (w.heap.size + 1) [.int .i64 x, .int .i64 y, .int .i64 a, .int .i64 b] := Box.of4 (Below.refl _ _) _ (by first | (simp; done) | (simp; omega)) (by simp [go_sem]) (by simp [go_sem]) (by simp [go_sem]) (by simp [go_sem])
    have Zresv1 : Box (((w.alloc (.cells #[.int .i64 W, .int .i64 H, .slice A n c] 30)).alloc (.cells #[.int .i64 x, .int .i64 y, .int .i64 a, .int .i64 b] 50)).alloc (.cells #[.int .i64 0, .int .i64 0, .slice none 0 0] 30)) (w.heap.size + 1 + 1) [.int .i64 0, .int .i64 0, .slice none 0 0] := Box.of3 (Below.refl _ _) _ (by first | (simp; done) | (simp; omega)) (by simp [go_sem]) (by simp [go_sem]) (by simp [go_sem])
    generalize (((w.alloc (.cells #[.int .i64 W, .int .i64 H, .slice A n c] 30)).alloc (.cells #[.int .i64 x, .int .i64 y, .int .i64 a, .int .i64 b] 50)).alloc (.cells #[.int .i64 0, .int .i64 0, .slice none 0 0] 30)) = v1 at *
    have Bv1 : Below w.heap.size w v1 := Bw.trans (bv1.mono bsw)
    have tv1 := bv1.size
    have bsv1 := Bv1.size
    have Xiv1 := Lib.hid Ziv1
    clear Ziv1
    have Xrv1 := Lib.hid Zrv1
    clear Zrv1
    have Xresv1 := Lib.hid Zresv1
    clear Zresv1
    have ⟨qiv1_0, qiv1_1, qiv1_2, qiv1_3⟩ := Xiv1.out.open3
    have ⟨qrv1_0, qrv1_1, qrv1_2, qrv1_3, qrv1_4⟩ := Xrv1.out.open4
    have ⟨qresv1_0, qresv1_1, qresv1_2, qresv1_3⟩ := Xresv1.out.open3
    have Fv1 := Lib.hid FZ
    clear FZ
    refine regionL (S := (fun w' => w'.cell? ⟨w.heap.size, 0, none⟩ = some (.int .i64 W) ∧ w'.cell? ⟨w.heap.size, 1, none⟩ = some (.int .i64 H) ∧ w'.cell? ⟨w.heap.size, 2, none⟩ = some (.slice A n c) ∧ w'.cell? ⟨w.heap.size + 1, 0, none⟩ = some (.int .i64 x) ∧ w'.cell? ⟨w.heap.size + 1, 1, none⟩ = some (.int .i64 y) ∧ w'.cell? ⟨w.heap.size + 1, 2, none⟩ = some (.int .i64 a) ∧ w'.cell? ⟨w.heap.size + 1, 3, none⟩ = some (.int .i64 b))) (L := 14) (by kernel_rfl) ?_ (fun hHeld => ?_)
    · (((try dsimp only); (repeat' apply And.intro) <;> (first | (simp only [World.cell?_drew, *]; done) | (simp (disch := (first | omega | (simp; omega))) only [cell_far, cell_old, World.cell?_drew, *]; done))))
    refine takeL (i := 0) (oi := ?_) (v := ?_) ?_ (by kernel_rfl) (by kernel_rfl) (by kernel_rfl) (by kernel_rfl) ?_ (Or.inl ⟨?_, ?_⟩) (by assumption) ?_
    rotate_left 2
    · (simp only [List.getElem?_toArray, List.getElem?_cons_succ, List.getElem?_cons_zero]; rfl)
    · exact fun _ _ _ h => h
    · rfl
    · (intro w hSw; (try dsimp only at hSw); go_simp; (try with_reducible rfl))
    try simp only [Act.put, List.setIfInBounds_toArray, List.set_cons_zero, List.set_cons_succ]
    refine readyL (rs := [1]) (by kernel_rfl) (by simp) ?_
    refine AllReadyL.cons (o := ?_) ?_ (fun K hK => ?_) AllReadyL.none_
    rotate_left
    · (simp only [List.getElem?_toArray, List.getElem?_cons_succ, List.getElem?_cons_zero]; rfl)
    go_simp
    go_at_call 32
    ((with_reducible refine (implImageOk _ _ _ _ _ lo hi zs _ (G.out.step (by go_grown))).mono ?_))
    rw [hok]
    rintro e w2 ⟨rfl, hbw2⟩
    have bw2 : Below v1.heap.size v1 w2 := later (by go_grown) hbw2
    have Bw2 : Below w.heap.size w w2 := Bv1.trans (bw2.mono bsv1)
    have sw2 := hbw2.size
    (try simp at sw2)
    have tw2 := bw2.size
    have bsw2 := Bw2.size
    have Xiw2 := Lib.hid (Xiv1.out.step bw2)
    clear Xiv1 qiv1_0 qiv1_1 qiv1_2 qiv1_3
    have Xrw2 := Lib.hid (Xrv1.out.step bw2)
    clear Xrv1 qrv1_0 qrv1_1 qrv1_2 qrv1_3 qrv1_4
    have Xresw2 := Lib.hid (Xresv1.out.step bw2)
    clear Xresv1 qresv1_0 qresv1_1 qresv1_2 qresv1_3
    have ⟨qiw2_0, qiw2_1, qiw2_2, qiw2_3⟩ := Xiw2.out.open3
    have ⟨qrw2_0, qrw2_1, qrw2_2, qrw2_3, qrw2_4⟩ := Xrw2.out.open4
    have ⟨qresw2_0, qresw2_1, qresw2_2, qresw2_3⟩ := Xresw2.out.open3
    have Fw2 := Lib.hid (show ∀ o, w2.frozen? ⟨w.heap.size + 1 + 1, o, none⟩ = false from fun o => (bw2.frozen (p := ⟨w.heap.size + 1 + 1, o, none⟩) (by show w.heap.size + 1 + 1 < _; omega)).trans (Fv1.out o))
    clear Fv1
    refine hK.out _ _ ?_ (fun hHeld => ?_)
    · (((try dsimp only); (repeat' apply And.intro) <;> (first | (simp only [World.cell?_drew, *]; done) | (simp (disch := (first | omega | (simp; omega))) only [cell_far, cell_old, World.cell?_drew, *]; done))))
    clear hK K
    try simp only [Act.put, List.setIfInBounds_toArray, List.set_cons_zero, List.set_cons_succ]
    refine takeL (i := 2) (oi := ?_) (v := ?_) ?_ (by kernel_rfl) (by kernel_rfl) (by kernel_rfl) (by kernel_rfl) ?_ (Or.inl ⟨?_, ?_⟩) (by assumption) ?_
    rotate_left 2
    · (simp only [List.getElem?_toArray, List.getElem?_cons_succ, List.getElem?_cons_zero]; rfl)
    · exact fun _ _ _ h => h
    · rfl
    · (intro w hSw; (try dsimp only at hSw); go_simp; (try with_reducible rfl))
    try simp only [Act.put, List.setIfInBounds_toArray, List.set_cons_zero, List.set_cons_succ]
    refine takeL (i := 3) (oi := ?_) (v := ?_) ?_ (by kernel_rfl) (by kernel_rfl) (by kernel_rfl) (by kernel_rfl) ?_ (Or.inl ⟨?_, ?_⟩) (by assumption) ?_
    rotate_left 2
    · (simp only [List.getElem?_toArray, List.getElem?_cons_succ, List.getElem?_cons_zero]; rfl)
    · exact fun _ _ _ h => h
    · rfl
    · (intro w hSw; (try dsimp only at hSw); go_simp; (try with_reducible rfl))
    try simp only [Act.put, List.setIfInBounds_toArray, List.set_cons_zero, List.set_cons_succ]
    refine takeL (i := 4) (oi := ?_) (v := ?_) ?_ (by kernel_rfl) (by kernel_rfl) (by kernel_rfl) (by kernel_rfl) ?_ (Or.inl ⟨?_, ?_⟩) (by assumption) ?_
    rotate_left 2
    · (simp only [List.getElem?_toArray, List.getElem?_cons_succ, List.getElem?_cons_zero]; rfl)
    · exact fun _ _ _ h => h
    · rfl
    · (intro w hSw; (try dsimp only at hSw); go_simp; (try with_reducible rfl))
    try simp only [Act.put, List.setIfInBounds_toArray, List.set_cons_zero, List.set_cons_succ]
    refine readyL (rs := [5]) (by kernel_rfl) (by simp) ?_
    refine AllReadyL.cons (o := ?_) ?_ (fun K hK => ?_) AllReadyL.none_
    rotate_left
    · (simp only [List.getElem?_toArray, List.getElem?_cons_succ, List.getElem?_cons_zero]; rfl)
    go_simp
    go_at_call 53
    ((with_reducible refine (isEmpty_any x y a b _).mono ?_))
    rw [he]
    rintro e w3 ⟨rfl, hbw3⟩
    have bw3 : Below w2.heap.size w2 w3 := later (by go_grown) hbw3
    have Bw3 : Below w.heap.size w w3 := Bw2.trans (bw3.mono bsw2)
    have sw3 := hbw3.size
    (try simp at sw3)
    have tw3 := bw3.size
    have bsw3 := Bw3.size
    have Xiw3 := Lib.hid (Xiw2.out.step bw3)
    clear Xiw2 qiw2_0 qiw2_1 qiw2_2 qiw2_3
    have Xrw3 := Lib.hid (Xrw2.out.step bw3)
    clear Xrw2 qrw2_0 qrw2_1 qrw2_2 qrw2_3 qrw2_4
    have Xresw3 := Lib.hid (Xresw2.out.step bw3)
    clear Xresw2 qresw2_0 qresw2_1 qresw2_2 qresw2_3
    have ⟨qiw3_0, qiw3_1, qiw3_2, qiw3_3⟩ := Xiw3.out.open3
    have ⟨qrw3_0, qrw3_1, qrw3_2, qrw3_3, qrw3_4⟩ := Xrw3.out.open4
    have ⟨qresw3_0, qresw3_1, qresw3_2, qresw3_3⟩ := Xresw3.out.open3
    have Fw3 := Lib.hid (show ∀ o, w3.frozen? ⟨w.heap.size + 1 + 1, o, none⟩ = false from fun o => (bw3.frozen (p := ⟨w.heap.size + 1 + 1, o, none⟩) (by show w.heap.size + 1 + 1 < _; omega)).trans (Fw2.out o))
    clear Fw2
    refine hK.out _ _ ?_ (fun hHeld => ?_)
    · (((try dsimp only); (repeat' apply And.intro) <;> (first | (simp only [World.cell?_drew, *]; done) | (simp (disch := (first | omega | (simp; omega))) only [cell_far, cell_old, World.cell?_drew, *]; done))))
    clear hK K
    try simp only [Act.put, List.setIfInBounds_toArray, List.set_cons_zero, List.set_cons_succ]
    refine takeL (i := 6) (oi := ?_) (v := ?_) ?_ (by kernel_rfl) (by kernel_rfl) (by kernel_rfl) (by kernel_rfl) ?_ (Or.inl ⟨?_, ?_⟩) (by assumption) ?_
    rotate_left 2
    · (simp only [List.getElem?_toArray, List.getElem?_cons_succ, List.getElem?_cons_zero]; rfl)
    · exact fun _ _ _ h => h
    · rfl
    · (intro w hSw; (try dsimp only at hSw); go_simp; (try with_reducible rfl))
    try simp only [Act.put, List.setIfInBounds_toArray, List.set_cons_zero, List.set_cons_succ]
    refine takeL (i := 7) (oi := ?_) (v := ?_) ?_ (by kernel_rfl) (by kernel_rfl) (by kernel_rfl) (by kernel_rfl) ?_ (Or.inl ⟨?_, ?_⟩) (by assumption) ?_
    rotate_left 2
    · (simp only [List.getElem?_toArray, List.getElem?_cons_succ, List.getElem?_cons_zero]; rfl)
    · exact fun _ _ _ h => h
    · rfl
    · (intro w hSw; (try dsimp only at hSw); go_simp; (try with_reducible rfl))
    try simp only [Act.put, List.setIfInBounds_toArray, List.set_cons_zero, List.set_cons_succ]
    refine takeL (i := 8) (oi := ?_) (v := ?_) ?_ (by kernel_rfl) (by kernel_rfl) (by kernel_rfl) (by kernel_rfl) ?_ (Or.inl ⟨?_, ?_⟩) (by assumption) ?_
    rotate_left 2
    · (simp only [List.getElem?_toArray, List.getElem?_cons_succ, List.getElem?_cons_zero]; rfl)
    · exact fun _ _ _ h => h
    · rfl
    · (intro w hSw; (try dsimp only at hSw); go_simp; (try with_reducible rfl))
    try simp only [Act.put, List.setIfInBounds_toArray, List.set_cons_zero, List.set_cons_succ]
    refine takeL (i := 10) (oi := ?_) (v := ?_) ?_ (by kernel_rfl) (by kernel_rfl) (by kernel_rfl) (by kernel_rfl) ?_ (Or.inl ⟨?_, ?_⟩) (by assumption) ?_
    rotate_left 2
    · (simp only [List.getElem?_toArray, List.getElem?_cons_succ, List.getElem?_cons_zero]; rfl)
    · exact fun _ _ _ h => h
    · rfl
    · (intro w hSw; (try dsimp only at hSw); go_simp; (try with_reducible rfl))
    try simp only [Act.put, List.setIfInBounds_toArray, List.set_cons_zero, List.set_cons_succ]
    refine readyL (rs := [9]) (by kernel_rfl) (by simp) ?_
    refine AllReadyL.cons (o := ?_) ?_ (fun K hK => ?_) AllReadyL.none_
    rotate_left
    · (simp only [List.getElem?_toArray, List.getElem?_cons_succ, List.getElem?_cons_zero]; rfl)
    go_simp
    go_at_call 55
    ((with_reducible refine (imageRect_any W H A n c _).mono ?_))
    rintro e w4 ⟨rfl, hbw4⟩
    have bw4 : Below w3.heap.size w3 w4 := later (by go_grown) hbw4
    have Bw4 : Below w.heap.size w w4 := Bw3.trans (bw4.mono bsw3)
    have sw4 := hbw4.size
    (try simp at sw4)
    have tw4 := bw4.size
    have bsw4 := Bw4.size
    have Xiw4 := Lib.hid (Xiw3.out.step bw4)
    clear Xiw3 qiw3_0 qiw3_1 qiw3_2 qiw3_3
    have Xrw4 := Lib.hid (Xrw3.out.step bw4)
    clear Xrw3 qrw3_0 qrw3_1 qrw3_2 qrw3_3 qrw3_4
    have Xresw4 := Lib.hid (Xresw3.out.step bw4)
    clear Xresw3 qresw3_0 qresw3_1 qresw3_2 qresw3_3
    have ⟨qiw4_0, qiw4_1, qiw4_2, qiw4_3⟩ := Xiw4.out.open3
    have ⟨qrw4_0, qrw4_1, qrw4_2, qrw4_3, qrw4_4⟩ := Xrw4.out.open4
    have ⟨qresw4_0, qresw4_1, qresw4_2, qresw4_3⟩ := Xresw4.out.open3
    have Fw4 := Lib.hid (show ∀ o, w4.frozen? ⟨w.heap.size + 1 + 1, o, none⟩ = false from fun o => (bw4.frozen (p := ⟨w.heap.size + 1 + 1, o, none⟩) (by show w.heap.size + 1 + 1 < _; omega)).trans (Fw3.out o))
    clear Fw3
    refine hK.out _ _ ?_ (fun hHeld => ?_)
    · (((try dsimp only); (repeat' apply And.intro) <;> (first | (simp only [World.cell?_drew, *]; done) | (simp (disch := (first | omega | (simp; omega))) only [cell_far, cell_old, World.cell?_drew, *]; done))))
    clear hK K
    try simp only [Act.put, List.setIfInBounds_toArray, List.set_cons_zero, List.set_cons_succ]
    refine readyL (rs := [11]) (by kernel_rfl) (by simp) ?_
    refine AllReadyL.cons (o := ?_) ?_ (fun K hK => ?_) AllReadyL.none_
    rotate_left
    · (simp only [List.getElem?_toArray, List.getElem?_cons_succ, List.getElem?_cons_zero]; rfl)
    go_simp
    go_at_call 54
    ((with_reducible refine (implCovers 0 0 W H x y a b _).mono ?_))
    rw [hc]
    rintro e w5 ⟨rfl, hbw5⟩
    have bw5 : Below w4.heap.size w4 w5 := later (by go_grown) hbw5
    have Bw5 : Below w.heap.size w w5 := Bw4.trans (bw5.mono bsw4)
    have sw5 := hbw5.size
    (try simp at sw5)
    have tw5 := bw5.size
    have bsw5 := Bw5.size
    have Xiw5 := Lib.hid (Xiw4.out.step bw5)
    clear Xiw4 qiw4_0 qiw4_1 qiw4_2 qiw4_3
    have Xrw5 := Lib.hid (Xrw4.out.step bw5)
    clear Xrw4 qrw4_0 qrw4_1 qrw4_2 qrw4_3 qrw4_4
    have Xresw5 := Lib.hid (Xresw4.out.step bw5)
    clear Xresw4 qresw4_0 qresw4_1 qresw4_2 qresw4_3
    have ⟨qiw5_0, qiw5_1, qiw5_2, qiw5_3⟩ := Xiw5.out.open3
    have ⟨qrw5_0, qrw5_1, qrw5_2, qrw5_3, qrw5_4⟩ := Xrw5.out.open4
    have ⟨qresw5_0, qresw5_1, qresw5_2, qresw5_3⟩ := Xresw5.out.open3
    have Fw5 := Lib.hid (show ∀ o, w5.frozen? ⟨w.heap.size + 1 + 1, o, none⟩ = false from fun o => (bw5.frozen (p := ⟨w.heap.size + 1 + 1, o, none⟩) (by show w.heap.size + 1 + 1 < _; omega)).trans (Fw4.out o))
    clear Fw4
    refine hK.out _ _ ?_ (fun hHeld => ?_)
    · (((try dsimp only); (repeat' apply And.intro) <;> (first | (simp only [World.cell?_drew, *]; done) | (simp (disch := (first | omega | (simp; omega))) only [cell_far, cell_old, World.cell?_drew, *]; done))))
    clear hK K
    try simp only [Act.put, List.setIfInBounds_toArray, List.set_cons_zero, List.set_cons_succ]
    refine takeL (i := 12) (oi := ?_) (v := ?_) ?_ (by kernel_rfl) (by kernel_rfl) (by kernel_rfl) (by kernel_rfl) ?_ (Or.inl ⟨?_, ?_⟩) (by assumption) ?_
    rotate_left 2
    · (simp only [List.getElem?_toArray, List.getElem?_cons_succ, List.getElem?_cons_zero]; rfl)
    · exact fun _ _ _ h => h
    · rfl
    · (intro w hSw; (try dsimp only at hSw); go_simp; (try with_reducible rfl))
    try simp only [Act.put, List.setIfInBounds_toArray, List.set_cons_zero, List.set_cons_succ]
    refine takeL (i := 13) (oi := ?_) (v := ?_) ?_ (by kernel_rfl) (by kernel_rfl) (by kernel_rfl) (by kernel_rfl) ?_ (Or.inl ⟨?_, ?_⟩) (by assumption) ?_
    rotate_left 2
    · (simp only [List.getElem?_toArray, List.getElem?_cons_succ, List.getElem?_cons_zero]; rfl)
    · exact fun _ _ _ h => h
    · rfl
    · (intro w hSw; (try dsimp only at hSw); go_simp; (try with_reducible rfl))
    try simp only [Act.put, List.setIfInBounds_toArray, List.set_cons_zero, List.set_cons_succ]
    refine doneL (by kernel_rfl) ?_ _
    have fr0 := Fw5.out 0
    have fr1 := Fw5.out 1
    have fr2 := Fw5.out 2
    go_wp2_with fail
    refine bodyPost_ret (v := .tuple #[.agg #[.int .i64 0, .int .i64 0, .slice none 0 0], .bool false]) (by simp [results, Try.results24, go_sem, qresw5_1, qresw5_2, qresw5_3]) rfl ?_
    have HV2 := HV.out
    have HK2 := HK.out
    have B9 := Bw5
    unfold NewImg2
    rw [← HV2, HK2]
    exact ⟨none, 0, rfl, Own.nil _ _ _ _ _ (Nat.le_refl _), by go_grown⟩
  have hcrop : Pl.cropOk ⟨W, H, zs⟩ ⟨x, y, a, b⟩ = true := by simp [Pl.cropOk, hok, he, hc]
  obtain ⟨_, hr', _, _, x1, y1, a1, b1, xa, yb⟩ := Pl.cropOk_t hcrop
  obtain ⟨⟨W1, W2⟩, ⟨H1, H2⟩, e3, _⟩ := Pl.imageOk_t hok
  simp only at W1 W2 H1 H2 e3
  rw [L.out] at e3
  have E3 := Lib.hid e3
  have HK := Lib.hid hcrop
  clear e3 hcrop
  obtain ⟨rx, rfl⟩ := Int.eq_ofNat_of_zero_le x1
  obtain ⟨ry, rfl⟩ := Int.eq_ofNat_of_zero_le y1
  obtain ⟨P, rfl⟩ := Int.eq_ofNat_of_zero_le (show 0 ≤ a by omega)
  obtain ⟨Q, rfl⟩ := Int.eq_ofNat_of_zero_le (show 0 ≤ b by omega)
  have HV := Lib.hid (show (⟨P, Q, Pl.tab P Q (Pl.cropAt ⟨W, H, zs⟩ ⟨rx, ry, P, Q⟩)⟩ : Pl.Img) = Pl.crop ⟨W, H, zs⟩ ⟨rx, ry, P, Q⟩ by unfold Pl.crop; rw [HK.out]; rfl)
  go_enter Try.func24, Try.ntmps24
  go_wp2_with fail
  have FZ : ∀ o, (((w.alloc (.cells #[.int .i64 W, .int .i64 H, .slice A n c] 30)).alloc (.cells #[.int .i64 rx, .int .i64 ry, .int .i64 P, .int .i64 Q] 50)).alloc (.cells #[.int .i64 0, .int .i64 0, .slice none 0 0] 30)).frozen? ⟨w.heap.size + 1 + 1, o, none⟩ = false := fun o => by simp [go_sem]
  have bv1 : Below w.heap.size w (((w.alloc (.cells #[.int .i64 W, .int .i64 H, .slice A n c] 30)).alloc (.cells #[.int .i64 rx, .int .i64 ry, .int .i64 P, .int .i64 Q] 50)).alloc (.cells #[.int .i64 0, .int .i64 0, .slice none 0 0] 30)) := by go_grown
  have sv1 : w.heap.size + 3 ≤ (((w.alloc (.cells #[.int .i64 W, .int .i64 H, .slice A n c] 30)).alloc (.cells #[.int .i64 rx, .int .i64 ry, .int .i64 P, .int .i64 Q] 50)).alloc (.cells #[.int .i64 0, .int .i64 0, .slice none 0 0] 30)).heap.size := by simp
  have rv1 : (((w.alloc (.cells #[.int .i64 W, .int .i64 H, .slice A n c] 30)).alloc (.cells #[.int .i64 rx, .int .i64 ry, .int .i64 P, .int .i64 Q] 50)).alloc (.cells #[.int .i64 0, .int .i64 0, .slice none 0 0] 30)).heap.size ≤ w.heap.size + 3 := by simp
  have Ziv1 : Box (((w.alloc (.cells #[.int .i64 W, .int .i64 H, .slice A n c] 30)).alloc (.cells #[.int .i64 rx, .int .i64 ry, .int .i64 P, .int .i64 Q] 50)).alloc (.cells #[.int .i64 0, .int .i64 0, .slice none 0 0] 30)) (w.heap.size) [.int .i64 W, .int .i64 H, .slice A n c] := Box.of3 (Below.refl _ _) _ (by first | (simp; done) | (simp; omega)) (by simp [go_sem]) (by simp [go_sem]) (by simp [go_sem])
  have Zrv1 : Box (((w.alloc (.cells #[.int .i64 W, .int .i64 H, .slice A n c] 30)).alloc (.cells #[.int .i64 rx, .int .i64 ry, .int .i64 P, .int .i64 Q] 50)).alloc (.cells #[.int .i64 0, .int .i64 0, .slice none 0 0] 30)) (w.heap.size + 1) [.int .i64 rx, .int .i64 ry, .int .i64 P, .int .i64 Q] := Box.of4 (Below.refl _ _) _ (by first | (simp; done) | (simp; omega)) (by simp [go_sem]) (by simp [go_sem]) (by simp [go_sem]) (by simp [go_sem])
  have Zresv1 : Box (((w.alloc (.cells #[.int .i64 W, .int .i64 H, .slice A n c] 30)).alloc (.cells #[.int .i64 rx, .int .i64 ry, .int .i64 P, .int .i64 Q] 50)).alloc (.cells #[.int .i64 0, .int .i64 0, .slice none 0 0] 30)) (w.heap.size + 1 + 1) [.int .i64 0, .int .i64 0, .slice none 0 0] := Box.of3 (Below.refl _ _) _ (by first | (simp; done) | (simp; omega)) (by simp [go_sem]) (by simp [go_sem]) (by simp [go_sem])
  generalize (((w.alloc (.cells #[.int .i64 W, .int .i64 H, .slice A n c] 30)).alloc (.cells #[.int .i64 rx, .int .i64 ry, .int .i64 P, .int .i64 Q] 50)).alloc (.cells #[.int .i64 0, .int .i64 0, .slice none 0 0] 30)) = v1 at *
  have Bv1 : Below w.heap.size w v1 := Bw.trans (bv1.mono bsw)
  have tv1 := bv1.size
  have bsv1 := Bv1.size
  have Xiv1 := Lib.hid Ziv1
  clear Ziv1
  have Xrv1 := Lib.hid Zrv1
  clear Zrv1
  have Xresv1 := Lib.hid Zresv1
  clear Zresv1
  have ⟨qiv1_0, qiv1_1, qiv1_2, qiv1_3⟩ := Xiv1.out.open3
  have ⟨qrv1_0, qrv1_1, qrv1_2, qrv1_3, qrv1_4⟩ := Xrv1.out.open4
  have ⟨qresv1_0, qresv1_1, qresv1_2, qresv1_3⟩ := Xresv1.out.open3
  have Fv1 := Lib.hid FZ
  clear FZ
  refine regionL (S := (fun w' => w'.cell? ⟨w.heap.size, 0, none⟩ = some (.int .i64 W) ∧ w'.cell? ⟨w.heap.size, 1, none⟩ = some (.int .i64 H) ∧ w'.cell? ⟨w.heap.size, 2, none⟩ = some (.slice A n c) ∧ w'.cell? ⟨w.heap.size + 1, 0, none⟩ = some (.int .i64 rx) ∧ w'.cell? ⟨w.heap.size + 1, 1, none⟩ = some (.int .i64 ry) ∧ w'.cell? ⟨w.heap.size + 1, 2, none⟩ = some (.int .i64 P) ∧ w'.cell? ⟨w.heap.size + 1, 3, none⟩ = some (.int .i64 Q))) (L := 14) (by kernel_rfl) ?_ (fun hHeld => ?_)
  · (((try dsimp only); (repeat' apply And.intro) <;> (first | (simp only [World.cell?_drew, *]; done) | (simp (disch := (first | omega | (simp; omega))) only [cell_far, cell_old, World.cell?_drew, *]; done))))
  refine takeL (i := 0) (oi := ?_) (v := ?_) ?_ (by kernel_rfl) (by kernel_rfl) (by kernel_rfl) (by kernel_rfl) ?_ (Or.inl ⟨?_, ?_⟩) (by assumption) ?_
  rotate_left 2
  · (simp only [List.getElem?_toArray, List.getElem?_cons_succ, List.getElem?_cons_zero]; rfl)
  · exact fun _ _ _ h => h
  · rfl
  · (intro w hSw; (try dsimp only at hSw); go_simp; (try with_reducible rfl))
  try simp only [Act.put, List.setIfInBounds_toArray, List.set_cons_zero, List.set_cons_succ]
  refine readyL (rs := [1]) (by kernel_rfl) (by simp) ?_
  refine AllReadyL.cons (o := ?_) ?_ (fun K hK => ?_) AllReadyL.none_
  rotate_left
  · (simp only [List.getElem?_toArray, List.getElem?_cons_succ, List.getElem?_cons_zero]; rfl)
  go_simp
  go_at_call 32
  ((with_reducible refine (implImageOk _ _ _ _ _ lo hi zs _ (G.out.step (by go_grown))).mono ?_))
  rw [hok]
  rintro e w2 ⟨rfl, hbw2⟩
  have bw2 : Below v1.heap.size v1 w2 := later (by go_grown) hbw2
  have Bw2 : Below w.heap.size w w2 := Bv1.trans (bw2.mono bsv1)
  have sw2 := hbw2.size
  (try simp at sw2)
  have tw2 := bw2.size
  have bsw2 := Bw2.size
  have Xiw2 := Lib.hid (Xiv1.out.step bw2)
  clear Xiv1 qiv1_0 qiv1_1 qiv1_2 qiv1_3
  have Xrw2 := Lib.hid (Xrv1.out.step bw2)
  clear Xrv1 qrv1_0 qrv1_1 qrv1_2 qrv1_3 qrv1_4
  have Xresw2 := Lib.hid (Xresv1.out.step bw2)
  clear Xresv1 qresv1_0 qresv1_1 qresv1_2 qresv1_3
  have ⟨qiw2_0, qiw2_1, qiw2_2, qiw2_3⟩ := Xiw2.out.open3
  have ⟨qrw2_0, qrw2_1, qrw2_2, qrw2_3, qrw2_4⟩ := Xrw2.out.open4
  have ⟨qresw2_0, qresw2_1, qresw2_2, qresw2_3⟩ := Xresw2.out.open3
  have Fw2 := Lib.hid (show ∀ o, w2.frozen? ⟨w.heap.size + 1 + 1, o, none⟩ = false from fun o => (bw2.frozen (p := ⟨w.heap.size + 1 + 1, o, none⟩) (by show w.heap.size + 1 + 1 < _; omega)).trans (Fv1.out o))
  clear Fv1
  refine hK.out _ _ ?_ (fun hHeld => ?_)
  · (((try dsimp only); (repeat' apply And.intro) <;> (first | (simp only [World.cell?_drew, *]; done) | (simp (disch := (first | omega | (simp; omega))) only [cell_far, cell_old, World.cell?_drew, *]; done))))
  clear hK K
  try simp only [Act.put, List.setIfInBounds_toArray, List.set_cons_zero, List.set_cons_succ]
  refine takeL (i := 2) (oi := ?_) (v := ?_) ?_ (by kernel_rfl) (by kernel_rfl) (by kernel_rfl) (by kernel_rfl) ?_ (Or.inl ⟨?_, ?_⟩) (by assumption) ?_
  rotate_left 2
  · (simp only [List.getElem?_toArray, List.getElem?_cons_succ, List.getElem?_cons_zero]; rfl)
  · exact fun _ _ _ h => h
  · rfl
  · (intro w hSw; (try dsimp only at hSw); go_simp; (try with_reducible rfl))
  try simp only [Act.put, List.setIfInBounds_toArray, List.set_cons_zero, List.set_cons_succ]
  refine takeL (i := 3) (oi := ?_) (v := ?_) ?_ (by kernel_rfl) (by kernel_rfl) (by kernel_rfl) (by kernel_rfl) ?_ (Or.inl ⟨?_, ?_⟩) (by assumption) ?_
  rotate_left 2
  · (simp only [List.getElem?_toArray, List.getElem?_cons_succ, List.getElem?_cons_zero]; rfl)
  · exact fun _ _ _ h => h
  · rfl
  · (intro w hSw; (try dsimp only at hSw); go_simp; (try with_reducible rfl))
  try simp only [Act.put, List.setIfInBounds_toArray, List.set_cons_zero, List.set_cons_succ]
  refine takeL (i := 4) (oi := ?_) (v := ?_) ?_ (by kernel_rfl) (by kernel_rfl) (by kernel_rfl) (by kernel_rfl) ?_ (Or.inl ⟨?_, ?_⟩) (by assumption) ?_
  rotate_left 2
  · (simp only [List.getElem?_toArray, List.getElem?_cons_succ, List.getElem?_cons_zero]; rfl)
  · exact fun _ _ _ h => h
  · rfl
  · (intro w hSw; (try dsimp only at hSw); go_simp; (try with_reducible rfl))
  try simp only [Act.put, List.setIfInBounds_toArray, List.set_cons_zero, List.set_cons_succ]
  refine readyL (rs := [5]) (by kernel_rfl) (by simp) ?_
  refine AllReadyL.cons (o := ?_) ?_ (fun K hK => ?_) AllReadyL.none_
  rotate_left
  · (simp only [List.getElem?_toArray, List.getElem?_cons_succ, List.getElem?_cons_zero]; rfl)
  go_simp
  go_at_call 53
  ((with_reducible refine (isEmpty_any rx ry P Q _).mono ?_))
  rw [he]
  rintro e w3 ⟨rfl, hbw3⟩
  have bw3 : Below w2.heap.size w2 w3 := later (by go_grown) hbw3
  have Bw3 : Below w.heap.size w w3 := Bw2.trans (bw3.mono bsw2)
  have sw3 := hbw3.size
  (try simp at sw3)
  have tw3 := bw3.size
  have bsw3 := Bw3.size
  have Xiw3 := Lib.hid (Xiw2.out.step bw3)
  clear Xiw2 qiw2_0 qiw2_1 qiw2_2 qiw2_3
  have Xrw3 := Lib.hid (Xrw2.out.step bw3)
  clear Xrw2 qrw2_0 qrw2_1 qrw2_2 qrw2_3 qrw2_4
  have Xresw3 := Lib.hid (Xresw2.out.step bw3)
  clear Xresw2 qresw2_0 qresw2_1 qresw2_2 qresw2_3
  have ⟨qiw3_0, qiw3_1, qiw3_2, qiw3_3⟩ := Xiw3.out.open3
  have ⟨qrw3_0, qrw3_1, qrw3_2, qrw3_3, qrw3_4⟩ := Xrw3.out.open4
  have ⟨qresw3_0, qresw3_1, qresw3_2, qresw3_3⟩ := Xresw3.out.open3
  have Fw3 := Lib.hid (show ∀ o, w3.frozen? ⟨w.heap.size + 1 + 1, o, none⟩ = false from fun o => (bw3.frozen (p := ⟨w.heap.size + 1 + 1, o, none⟩) (by show w.heap.size + 1 + 1 < _; omega)).trans (Fw2.out o))
  clear Fw2
  refine hK.out _ _ ?_ (fun hHeld => ?_)
  · (((try dsimp only); (repeat' apply And.intro) <;> (first | (simp only [World.cell?_drew, *]; done) | (simp (disch := (first | omega | (simp; omega))) only [cell_far, cell_old, World.cell?_drew, *]; done))))
  clear hK K
  try simp only [Act.put, List.setIfInBounds_toArray, List.set_cons_zero, List.set_cons_succ]
  refine takeL (i := 6) (oi := ?_) (v := ?_) ?_ (by kernel_rfl) (by kernel_rfl) (by kernel_rfl) (by kernel_rfl) ?_ (Or.inl ⟨?_, ?_⟩) (by assumption) ?_
  rotate_left 2
  · (simp only [List.getElem?_toArray, List.getElem?_cons_succ, List.getElem?_cons_zero]; rfl)
  · exact fun _ _ _ h => h
  · rfl
  · (intro w hSw; (try dsimp only at hSw); go_simp; (try with_reducible rfl))
  try simp only [Act.put, List.setIfInBounds_toArray, List.set_cons_zero, List.set_cons_succ]
  refine takeL (i := 7) (oi := ?_) (v := ?_) ?_ (by kernel_rfl) (by kernel_rfl) (by kernel_rfl) (by kernel_rfl) ?_ (Or.inl ⟨?_, ?_⟩) (by assumption) ?_
  rotate_left 2
  · (simp only [List.getElem?_toArray, List.getElem?_cons_succ, List.getElem?_cons_zero]; rfl)
  · exact fun _ _ _ h => h
  · rfl
  · (intro w hSw; (try dsimp only at hSw); go_simp; (try with_reducible rfl))
  try simp only [Act.put, List.setIfInBounds_toArray, List.set_cons_zero, List.set_cons_succ]
  refine takeL (i := 8) (oi := ?_) (v := ?_) ?_ (by kernel_rfl) (by kernel_rfl) (by kernel_rfl) (by kernel_rfl) ?_ (Or.inl ⟨?_, ?_⟩) (by assumption) ?_
  rotate_left 2
  · (simp only [List.getElem?_toArray, List.getElem?_cons_succ, List.getElem?_cons_zero]; rfl)
  · exact fun _ _ _ h => h
  · rfl
  · (intro w hSw; (try dsimp only at hSw); go_simp; (try with_reducible rfl))
  try simp only [Act.put, List.setIfInBounds_toArray, List.set_cons_zero, List.set_cons_succ]
  refine takeL (i := 10) (oi := ?_) (v := ?_) ?_ (by kernel_rfl) (by kernel_rfl) (by kernel_rfl) (by kernel_rfl) ?_ (Or.inl ⟨?_, ?_⟩) (by assumption) ?_
  rotate_left 2
  · (simp only [List.getElem?_toArray, List.getElem?_cons_succ, List.getElem?_cons_zero]; rfl)
  · exact fun _ _ _ h => h
  · rfl
  · (intro w hSw; (try dsimp only at hSw); go_simp; (try with_reducible rfl))
  try simp only [Act.put, List.setIfInBounds_toArray, List.set_cons_zero, List.set_cons_succ]
  refine readyL (rs := [9]) (by kernel_rfl) (by simp) ?_
  refine AllReadyL.cons (o := ?_) ?_ (fun K hK => ?_) AllReadyL.none_
  rotate_left
  · (simp only [List.getElem?_toArray, List.getElem?_cons_succ, List.getElem?_cons_zero]; rfl)
  go_simp
  go_at_call 55
  ((with_reducible refine (imageRect_any W H A n c _).mono ?_))
  rintro e w4 ⟨rfl, hbw4⟩
  have bw4 : Below w3.heap.size w3 w4 := later (by go_grown) hbw4
  have Bw4 : Below w.heap.size w w4 := Bw3.trans (bw4.mono bsw3)
  have sw4 := hbw4.size
  (try simp at sw4)
  have tw4 := bw4.size
  have bsw4 := Bw4.size
  have Xiw4 := Lib.hid (Xiw3.out.step bw4)
  clear Xiw3 qiw3_0 qiw3_1 qiw3_2 qiw3_3
  have Xrw4 := Lib.hid (Xrw3.out.step bw4)
  clear Xrw3 qrw3_0 qrw3_1 qrw3_2 qrw3_3 qrw3_4
  have Xresw4 := Lib.hid (Xresw3.out.step bw4)
  clear Xresw3 qresw3_0 qresw3_1 qresw3_2 qresw3_3
  have ⟨qiw4_0, qiw4_1, qiw4_2, qiw4_3⟩ := Xiw4.out.open3
  have ⟨qrw4_0, qrw4_1, qrw4_2, qrw4_3, qrw4_4⟩ := Xrw4.out.open4
  have ⟨qresw4_0, qresw4_1, qresw4_2, qresw4_3⟩ := Xresw4.out.open3
  have Fw4 := Lib.hid (show ∀ o, w4.frozen? ⟨w.heap.size + 1 + 1, o, none⟩ = false from fun o => (bw4.frozen (p := ⟨w.heap.size + 1 + 1, o, none⟩) (by show w.heap.size + 1 + 1 < _; omega)).trans (Fw3.out o))
  clear Fw3
  refine hK.out _ _ ?_ (fun hHeld => ?_)
  · (((try dsimp only); (repeat' apply And.intro) <;> (first | (simp only [World.cell?_drew, *]; done) | (simp (disch := (first | omega | (simp; omega))) only [cell_far, cell_old, World.cell?_drew, *]; done))))
  clear hK K
  try simp only [Act.put, List.setIfInBounds_toArray, List.set_cons_zero, List.set_cons_succ]
  refine readyL (rs := [11]) (by kernel_rfl) (by simp) ?_
  refine AllReadyL.cons (o := ?_) ?_ (fun K hK => ?_) AllReadyL.none_
  rotate_left
  · (simp only [List.getElem?_toArray, List.getElem?_cons_succ, List.getElem?_cons_zero]; rfl)
  go_simp
  go_at_call 54
  ((with_reducible refine (implCovers 0 0 W H rx ry P Q _).mono ?_))
  rw [hc]
  rintro e w5 ⟨rfl, hbw5⟩
  have bw5 : Below w4.heap.size w4 w5 := later (by go_grown) hbw5
  have Bw5 : Below w.heap.size w w5 := Bw4.trans (bw5.mono bsw4)
  have sw5 := hbw5.size
  (try simp at sw5)
  have tw5 := bw5.size
  have bsw5 := Bw5.size
  have Xiw5 := Lib.hid (Xiw4.out.step bw5)
  clear Xiw4 qiw4_0 qiw4_1 qiw4_2 qiw4_3
  have Xrw5 := Lib.hid (Xrw4.out.step bw5)
  clear Xrw4 qrw4_0 qrw4_1 qrw4_2 qrw4_3 qrw4_4
  have Xresw5 := Lib.hid (Xresw4.out.step bw5)
  clear Xresw4 qresw4_0 qresw4_1 qresw4_2 qresw4_3
  have ⟨qiw5_0, qiw5_1, qiw5_2, qiw5_3⟩ := Xiw5.out.open3
  have ⟨qrw5_0, qrw5_1, qrw5_2, qrw5_3, qrw5_4⟩ := Xrw5.out.open4
  have ⟨qresw5_0, qresw5_1, qresw5_2, qresw5_3⟩ := Xresw5.out.open3
  have Fw5 := Lib.hid (show ∀ o, w5.frozen? ⟨w.heap.size + 1 + 1, o, none⟩ = false from fun o => (bw5.frozen (p := ⟨w.heap.size + 1 + 1, o, none⟩) (by show w.heap.size + 1 + 1 < _; omega)).trans (Fw4.out o))
  clear Fw4
  refine hK.out _ _ ?_ (fun hHeld => ?_)
  · (((try dsimp only); (repeat' apply And.intro) <;> (first | (simp only [World.cell?_drew, *]; done) | (simp (disch := (first | omega | (simp; omega))) only [cell_far, cell_old, World.cell?_drew, *]; done))))
  clear hK K
  try simp only [Act.put, List.setIfInBounds_toArray, List.set_cons_zero, List.set_cons_succ]
  refine takeL (i := 12) (oi := ?_) (v := ?_) ?_ (by kernel_rfl) (by kernel_rfl) (by kernel_rfl) (by kernel_rfl) ?_ (Or.inl ⟨?_, ?_⟩) (by assumption) ?_
  rotate_left 2
  · (simp only [List.getElem?_toArray, List.getElem?_cons_succ, List.getElem?_cons_zero]; rfl)
  · exact fun _ _ _ h => h
  · rfl
  · (intro w hSw; (try dsimp only at hSw); go_simp; (try with_reducible rfl))
  try simp only [Act.put, List.setIfInBounds_toArray, List.set_cons_zero, List.set_cons_succ]
  refine takeL (i := 13) (oi := ?_) (v := ?_) ?_ (by kernel_rfl) (by kernel_rfl) (by kernel_rfl) (by kernel_rfl) ?_ (Or.inl ⟨?_, ?_⟩) (by assumption) ?_
  rotate_left 2
  · (simp only [List.getElem?_toArray, List.getElem?_cons_succ, List.getElem?_cons_zero]; rfl)
  · exact fun _ _ _ h => h
  · rfl
  · (intro w hSw; (try dsimp only at hSw); go_simp; (try with_reducible rfl))
  try simp only [Act.put, List.setIfInBounds_toArray, List.set_cons_zero, List.set_cons_succ]
  refine doneL (by kernel_rfl) ?_ _
  have GJ := Lib.hid (G.out.step Bw5)
  go_wp2_with fail
  refine (mapCrop w.heap.size (w.heap.size + 1) P Q (Pl.cropAt ⟨W, H, zs⟩ ⟨rx, ry, P, Q⟩) _ (by omega) (by omega) (by omega) (by omega) (fun p q wr hp hq hbr => cropFn W H rx ry P Q A n c lo hi zs w.heap.size (w.heap.size + 1) p q wr (Xiw5.out.step hbr) (Xrw5.out.step hbr) (GJ.out.step hbr) hok (by omega) (by omega) hp hq)).mono ?_
  rintro e w6 ⟨Aw6, cw6, rfl, Ow6, hbw6⟩
  have bw6 : Below w5.heap.size w5 w6 := later (by go_grown) hbw6
  have Bw6 : Below w.heap.size w w6 := Bw5.trans (bw6.mono bsw5)
  have sw6 := hbw6.size
  (try simp at sw6)
  have tw6 := bw6.size
  have bsw6 := Bw6.size
  have Xiw6 := Lib.hid (Xiw5.out.step bw6)
  clear Xiw5 qiw5_0 qiw5_1 qiw5_2 qiw5_3
  have Xrw6 := Lib.hid (Xrw5.out.step bw6)
  clear Xrw5 qrw5_0 qrw5_1 qrw5_2 qrw5_3 qrw5_4
  have Xresw6 := Lib.hid (Xresw5.out.step bw6)
  clear Xresw5 qresw5_0 qresw5_1 qresw5_2 qresw5_3
  have ⟨qiw6_0, qiw6_1, qiw6_2, qiw6_3⟩ := Xiw6.out.open3
  have ⟨qrw6_0, qrw6_1, qrw6_2, qrw6_3, qrw6_4⟩ := Xrw6.out.open4
  have ⟨qresw6_0, qresw6_1, qresw6_2, qresw6_3⟩ := Xresw6.out.open3
  have Fw6 := Lib.hid (show ∀ o, w6.frozen? ⟨w.heap.size + 1 + 1, o, none⟩ = false from fun o => (bw6.frozen (p := ⟨w.heap.size + 1 + 1, o, none⟩) (by show w.heap.size + 1 + 1 < _; omega)).trans (Fw5.out o))
  clear Fw5
  have fr0 := Fw6.out 0
  have fr1 := Fw6.out 1
  have fr2 := Fw6.out 2
  have IO := Lib.hid Ow6
  clear Ow6
  go_wp2_with fail
  refine bodyPost_ret (v := .tuple #[.agg #[.int .i64 (P : Int), .int .i64 (Q : Int), .slice Aw6 (Pl.tabTo P (Pl.cropAt ⟨W, H, zs⟩ ⟨rx, ry, P, Q⟩) (Q * P)).length cw6], .bool true]) (by simp [results, Try.results24, go_sem, qresw6_1, qresw6_2, qresw6_3]) rfl ?_
  have B9 := Bw6
  have t9 := Bw5.size
  have HV2 := HV.out
  have HK2 := HK.out
  unfold NewImg2
  rw [← HV2, HK2, Pl.tab_nat]
  refine ⟨Aw6, cw6, rfl, ?_, by go_grown⟩
  have hh := Own.far (Own.far (Own.far IO.out (p := ⟨w.heap.size + 1 + 1, 0, none⟩) (.inl (by show w.heap.size + 1 + 1 < _; omega)) (.int .i64 P)) (p := ⟨w.heap.size + 1 + 1, 1, none⟩) (.inl (by show w.heap.size + 1 + 1 < _; omega)) (.int .i64 Q)) (p := ⟨w.heap.size + 1 + 1, 2, none⟩) (.inl (by show w.heap.size + 1 + 1 < _; omega)) (.slice Aw6 (Pl.tabTo P (Pl.cropAt ⟨W, H, zs⟩ ⟨rx, ry, P, Q⟩) (Q * P)).length cw6)
  exact Own.mono hh (by omega) (by simp [World.setCell]) (by simp [World.setCell])
end Go.Proofs.Ytmjjepgnciibcaa
