/- Contracts: FillRect, both sides (written by genfill.py over XFill.base). -/
import Derived.Test.YtmjjepgnciibcaaCopy
import Derived.Test.YtmjjepgnciibcaaRect2
import Derived.Deep.DeepCutAuto
namespace Go.Proofs.Ytmjjepgnciibcaa
open Go.RowKit
set_option linter.unusedVariables false
theorem Pl.inter_in {r : Pl.R} {X Y : Nat} (h1 : 1 ≤ X) (h2 : X ≤ 16) (h3 : 1 ≤ Y) (h4 : Y ≤ 16) (hr : Pl.rectOk r.x r.y r.w r.h = true) : ∃ cx cy cw ch : Nat, Pl.inter r ⟨0, 0, X, Y⟩ = ⟨cx, cy, cw, ch⟩ ∧ cx + cw ≤ X ∧ cy + ch ≤ Y := by
  have hb : Pl.rectOk 0 0 X Y = true := by simp [Pl.rectOk, Pl.inB]; omega
  unfold Pl.inter
  simp only [Pl.R.ok, hr, hb, Bool.not_true, Bool.or_self, Bool.false_eq_true, if_false]
  split
  · exact ⟨0, 0, 0, 0, rfl, by omega, by omega⟩
  · refine ⟨(max r.x 0).toNat, (max r.y 0).toNat, (min (r.x + r.w) (0 + X) - max r.x 0).toNat, (min (r.y + r.h) (0 + Y) - max r.y 0).toNat, Pl.R.ext' ?_ ?_ ?_ ?_, ?_, ?_⟩ <;> (try simp only) <;> omega
theorem Pl.fillRow_snoc (p : Int) (w y x0 : Nat) {a : Nat} (d : List Int) (h : x0 ≤ a) : (Pl.fillRow p w y x0 (a - x0) d).set (y * w + a) p = Pl.fillRow p w y x0 (a + 1 - x0) d := by
  rw [show a + 1 - x0 = (a - x0) + 1 by omega]
  show _ = (Pl.fillRow p w y x0 (a - x0) d).set (y * w + (x0 + (a - x0))) p
  rw [show x0 + (a - x0) = a by omega]
theorem Pl.fillTo_snoc (p : Int) (w y0 x0 m : Nat) {y : Nat} (d : List Int) (h : y0 ≤ y) : Pl.fillRow p w y x0 m (Pl.fillTo p w y0 x0 m (y - y0) d) = Pl.fillTo p w y0 x0 m (y + 1 - y0) d := by
  rw [show y + 1 - y0 = (y - y0) + 1 by omega]
  show _ = Pl.fillRow p w (y0 + (y - y0)) x0 m (Pl.fillTo p w y0 x0 m (y - y0) d)
  rw [show y0 + (y - y0) = y by omega]
attribute [local go_sem ↓] app_fold
set_option maxHeartbeats 2000000 in
theorem l05Copy_nil (W H : Int) (w : World) : Calls Try.prog 40 #[.agg #[.int .i64 W, .int .i64 H, .slice none 0 0]] w (NewImg ⟨W, H, []⟩ w) := by
  obtain ⟨i0, hi0, hz0, hz1, hz2⟩ := info_parts Try.infoInt
  go_enter Try.func40, Try.ntmps40
  go_wp2_with fail
  have E0 : (((w.alloc (.cells #[.int .i64 W, .int .i64 H, .slice none 0 0] 30)).alloc (.cells #[.int .i64 0, .int .i64 0, .slice none 0 0] 30)).alloc (.cells #[] 3)).ownsRow (w.heap.size + 1 + 1) 3 1 (.slice (some ⟨w.heap.size + 1 + 1, 0, none⟩) 0 0) 0 [] := by
    have h := World.ownsRow_lit (base := w.heap.size + 1 + 1) (e := 3) (size := 1) ((w.alloc (.cells #[.int .i64 W, .int .i64 H, .slice none 0 0] 30)).alloc (.cells #[.int .i64 0, .int .i64 0, .slice none 0 0] 30)) #[] 0 (by simp) (by decide) rfl
    simpa using h
  have hrun := run_append_owned_none (P := Try.prog) (((w.alloc (.cells #[.int .i64 W, .int .i64 H, .slice none 0 0] 30)).alloc (.cells #[.int .i64 0, .int .i64 0, .slice none 0 0] 30)).alloc (.cells #[] 3)).drew (w.heap.size + 1 + 1) 22 22 3 i0 1 Try.underlying22 hi0 (.slice (some ⟨w.heap.size + 1 + 1, 0, none⟩) 0 0) 0 [] E0.drew
  rw [app_fold] at hrun
  have HO := Lib.hid E0
  clear E0
  go_region
  go_wp2_with fail
  refine bodyPost_ret (v := .agg #[.int .i64 W, .int .i64 H, .slice (some ⟨w.heap.size + 1 + 1, 0, none⟩) 0 0]) (by simp [results, Try.results40, go_sem]) rfl ?_
  refine ⟨some ⟨w.heap.size + 1 + 1, 0, none⟩, 0, rfl, ?_, by go_grown⟩
  have h := World.ownsRow_lit (base := w.heap.size + 1 + 1) (e := 3) (size := 1) ((w.alloc (.cells #[.int .i64 W, .int .i64 H, .slice none 0 0] 30)).alloc (.cells #[.int .i64 W, .int .i64 H, .slice (some ⟨w.heap.size + 1 + 1, 0, none⟩) 0 0] 30)) #[] 0 (by simp) (by decide) rfl
  simp only [World.size_alloc] at h
  exact Own.mono (Own.drew (Own.of_row h)) (by omega) (by simp) (by simp)
theorem l05Copy_all (W H : Int) (A : Option Addr) (n c lo hi : Nat) (zs : List Int) (w : World) (HI : Ints w lo hi (.slice A n c) zs) (hb : n ≤ 1048576) :
    Calls Try.prog 40 #[.agg #[.int .i64 W, .int .i64 H, .slice A n c]] w (NewImg ⟨W, H, zs⟩ w) := by
  rcases HI.head with ⟨rfl, rfl, rfl, rfl⟩ | ⟨g, rfl, hg⟩
  · exact l05Copy_nil W H w
  · exact l05Copy_any W H g n c lo hi zs w HI hb
set_option maxHeartbeats 8000000 in
theorem specFill (W H : Int) (A : Option Addr) (n c lo hi : Nat) (zs : List Int) (x y a b p : Int) (w : World) (HI : Ints w lo hi (.slice A n c) zs) (hb : n ≤ 1048576) :
    Calls Try.prog 22 #[.agg #[.int .i64 W, .int .i64 H, .slice A n c], .agg #[.int .i64 x, .int .i64 y, .int .i64 a, .int .i64 b], .int .i64 p] w (NewImg (Pl.fill ⟨W, H, zs⟩ ⟨x, y, a, b⟩ p) w) := by
  have bn := HI.bd
  have L := Lib.hid HI.len_eq
  have hl := HI.hi_le
  have G := Lib.hid HI
  clear HI
  have Bw : Below w.heap.size w w := Below.refl _ _
  have bsw := Bw.size
  cases hok : Pl.imageOk ⟨W, H, zs⟩
  case false =>
    have HV := Lib.hid (show Pl.Img.mk W H zs = Pl.fill ⟨W, H, zs⟩ ⟨x, y, a, b⟩ p by simp [Pl.fill, hok])
    go_enter Try.func22, Try.ntmps22
    go_wp2_with fail
    refine (l05Copy_all W H A n c lo hi zs _ (G.out.step (by go_grown)) hb).mono ?_
    rintro e w1 ⟨Aw1, cw1, rfl, Ow1, hbw1⟩
    have bw1 : Below w.heap.size w w1 := later (by go_grown) hbw1
    have Bw1 : Below w.heap.size w w1 := Bw.trans (bw1.mono bsw)
    have sw1 := hbw1.size
    (try simp at sw1)
    have tw1 := bw1.size
    have bsw1 := Bw1.size
    have Xaw1 := Lib.hid (Box.of3 hbw1 (w.heap.size) (by first | omega | (simp; done) | (simp; omega)) (v0 := .int .i64 W)  (v1 := .int .i64 H)  (v2 := .slice A n c) (by simp [go_sem]) (by simp [go_sem]) (by simp [go_sem]))
    have Xrw1 := Lib.hid (Box.of4 hbw1 (w.heap.size + 1) (by first | omega | (simp; done) | (simp; omega)) (v0 := .int .i64 x)  (v1 := .int .i64 y)  (v2 := .int .i64 a)  (v3 := .int .i64 b) (by simp [go_sem]) (by simp [go_sem]) (by simp [go_sem]) (by simp [go_sem]))
    have Xresw1 := Lib.hid (Box.of3 hbw1 (w.heap.size + 1 + 1) (by first | omega | (simp; done) | (simp; omega)) (v0 := .int .i64 0)  (v1 := .int .i64 0)  (v2 := .slice none 0 0) (by simp [go_sem]) (by simp [go_sem]) (by simp [go_sem]))
    have ⟨qaw1_0, qaw1_1, qaw1_2, qaw1_3⟩ := Xaw1.out.open3
    have ⟨qrw1_0, qrw1_1, qrw1_2, qrw1_3, qrw1_4⟩ := Xrw1.out.open4
    have ⟨qresw1_0, qresw1_1, qresw1_2, qresw1_3⟩ := Xresw1.out.open3
    have Fw1 := Lib.hid (show ∀ o, w1.frozen? ⟨w.heap.size + 1 + 1, o, none⟩ = false from fun o => (hbw1.frozen (p := ⟨w.heap.size + 1 + 1, o, none⟩) (by first | omega | (simp; done) | (simp; omega))).trans (by simp [go_sem]))
    have Iow1 : Hid (Ints w1 (w.heap.size + 3) w1.heap.size _ _) := Own.mono Ow1 (by (try simp); (try omega)) (Nat.le_refl _) (Nat.le_refl _)
    clear Ow1
    have Gw1 := Lib.hid (G.out.step Bw1)
    go_wp2_with fail
    skip
    refine (specImageOk _ _ _ _ _ lo hi zs _ (Gw1.out.step (by go_grown))).mono ?_
    rw [hok]
    rintro e w2 ⟨rfl, hbw2⟩
    have bw2 : Below w1.heap.size w1 w2 := later (by go_grown) hbw2
    have Bw2 : Below w.heap.size w w2 := Bw1.trans (bw2.mono bsw1)
    have sw2 := hbw2.size
    (try simp at sw2)
    have tw2 := bw2.size
    have bsw2 := Bw2.size
    have Xaw2 := Lib.hid (Xaw1.out.step bw2)
    clear Xaw1 qaw1_0 qaw1_1 qaw1_2 qaw1_3
    have Xrw2 := Lib.hid (Xrw1.out.step bw2)
    clear Xrw1 qrw1_0 qrw1_1 qrw1_2 qrw1_3 qrw1_4
    have Xresw2 := Lib.hid (Xresw1.out.step bw2)
    clear Xresw1 qresw1_0 qresw1_1 qresw1_2 qresw1_3
    have Xow2 := Lib.hid (Box.of3 hbw2 (w1.heap.size) (by first | omega | (simp; done) | (simp; omega)) (v0 := .int .i64 W)  (v1 := .int .i64 H)  (v2 := .slice Aw1 zs.length cw1) (by simp [go_sem]) (by simp [go_sem]) (by simp [go_sem]))
    have ⟨qaw2_0, qaw2_1, qaw2_2, qaw2_3⟩ := Xaw2.out.open3
    have ⟨qrw2_0, qrw2_1, qrw2_2, qrw2_3, qrw2_4⟩ := Xrw2.out.open4
    have ⟨qresw2_0, qresw2_1, qresw2_2, qresw2_3⟩ := Xresw2.out.open3
    have ⟨qow2_0, qow2_1, qow2_2, qow2_3⟩ := Xow2.out.open3
    have Iow2 := Lib.hid (Iow1.out.step bw2)
    clear Iow1
    have Fw2 := Lib.hid (show ∀ o, w2.frozen? ⟨w.heap.size + 1 + 1, o, none⟩ = false from fun o => (bw2.frozen (p := ⟨w.heap.size + 1 + 1, o, none⟩) (by show w.heap.size + 1 + 1 < _; omega)).trans (Fw1.out o))
    clear Fw1
    have fr0 := Fw2.out 0
    have fr1 := Fw2.out 1
    have fr2 := Fw2.out 2
    go_wp2_with fail
    refine bodyPost_ret (v := .agg #[.int .i64 W, .int .i64 H, .slice Aw1 zs.length cw1]) (by simp [results, Try.results22, go_sem, qresw2_1, qresw2_2, qresw2_3]) rfl ?_
    rw [← HV.out]
    refine ⟨Aw1, cw1, rfl, ?_, by go_grown⟩
    have h := Own.far (Own.far (Own.far Iow2.out (p := ⟨w.heap.size + 1 + 1, 0, none⟩) (.inl (by simp)) (.int .i64 W)) (p := ⟨w.heap.size + 1 + 1, 1, none⟩) (.inl (by simp)) (.int .i64 H)) (p := ⟨w.heap.size + 1 + 1, 2, none⟩) (.inl (by simp)) (.slice Aw1 zs.length cw1)
    exact Own.mono h (by omega) (by simp [World.setCell]; try omega) (by simp [World.setCell])
  cases hr : Pl.rectOk x y a b
  case false =>
    have HV := Lib.hid (show Pl.Img.mk W H zs = Pl.fill ⟨W, H, zs⟩ ⟨x, y, a, b⟩ p by simp [Pl.fill, Pl.R.ok, hr])
    go_enter Try.func22, Try.ntmps22
    go_wp2_with fail
    refine (l05Copy_all W H A n c lo hi zs _ (G.out.step (by go_grown)) hb).mono ?_
    rintro e w1 ⟨Aw1, cw1, rfl, Ow1, hbw1⟩
    have bw1 : Below w.heap.size w w1 := later (by go_grown) hbw1
    have Bw1 : Below w.heap.size w w1 := Bw.trans (bw1.mono bsw)
    have sw1 := hbw1.size
    (try simp at sw1)
    have tw1 := bw1.size
    have bsw1 := Bw1.size
    have Xaw1 := Lib.hid (Box.of3 hbw1 (w.heap.size) (by first | omega | (simp; done) | (simp; omega)) (v0 := .int .i64 W)  (v1 := .int .i64 H)  (v2 := .slice A n c) (by simp [go_sem]) (by simp [go_sem]) (by simp [go_sem]))
    have Xrw1 := Lib.hid (Box.of4 hbw1 (w.heap.size + 1) (by first | omega | (simp; done) | (simp; omega)) (v0 := .int .i64 x)  (v1 := .int .i64 y)  (v2 := .int .i64 a)  (v3 := .int .i64 b) (by simp [go_sem]) (by simp [go_sem]) (by simp [go_sem]) (by simp [go_sem]))
    have Xresw1 := Lib.hid (Box.of3 hbw1 (w.heap.size + 1 + 1) (by first | omega | (simp; done) | (simp; omega)) (v0 := .int .i64 0)  (v1 := .int .i64 0)  (v2 := .slice none 0 0) (by simp [go_sem]) (by simp [go_sem]) (by simp [go_sem]))
    have ⟨qaw1_0, qaw1_1, qaw1_2, qaw1_3⟩ := Xaw1.out.open3
    have ⟨qrw1_0, qrw1_1, qrw1_2, qrw1_3, qrw1_4⟩ := Xrw1.out.open4
    have ⟨qresw1_0, qresw1_1, qresw1_2, qresw1_3⟩ := Xresw1.out.open3
    have Fw1 := Lib.hid (show ∀ o, w1.frozen? ⟨w.heap.size + 1 + 1, o, none⟩ = false from fun o => (hbw1.frozen (p := ⟨w.heap.size + 1 + 1, o, none⟩) (by first | omega | (simp; done) | (simp; omega))).trans (by simp [go_sem]))
    have Iow1 : Hid (Ints w1 (w.heap.size + 3) w1.heap.size _ _) := Own.mono Ow1 (by (try simp); (try omega)) (Nat.le_refl _) (Nat.le_refl _)
    clear Ow1
    have Gw1 := Lib.hid (G.out.step Bw1)
    go_wp2_with fail
    skip
    refine (specImageOk _ _ _ _ _ lo hi zs _ (Gw1.out.step (by go_grown))).mono ?_
    rw [hok]
    rintro e w2 ⟨rfl, hbw2⟩
    have bw2 : Below w1.heap.size w1 w2 := later (by go_grown) hbw2
    have Bw2 : Below w.heap.size w w2 := Bw1.trans (bw2.mono bsw1)
    have sw2 := hbw2.size
    (try simp at sw2)
    have tw2 := bw2.size
    have bsw2 := Bw2.size
    have Xaw2 := Lib.hid (Xaw1.out.step bw2)
    clear Xaw1 qaw1_0 qaw1_1 qaw1_2 qaw1_3
    have Xrw2 := Lib.hid (Xrw1.out.step bw2)
    clear Xrw1 qrw1_0 qrw1_1 qrw1_2 qrw1_3 qrw1_4
    have Xresw2 := Lib.hid (Xresw1.out.step bw2)
    clear Xresw1 qresw1_0 qresw1_1 qresw1_2 qresw1_3
    have Xow2 := Lib.hid (Box.of3 hbw2 (w1.heap.size) (by first | omega | (simp; done) | (simp; omega)) (v0 := .int .i64 W)  (v1 := .int .i64 H)  (v2 := .slice Aw1 zs.length cw1) (by simp [go_sem]) (by simp [go_sem]) (by simp [go_sem]))
    have ⟨qaw2_0, qaw2_1, qaw2_2, qaw2_3⟩ := Xaw2.out.open3
    have ⟨qrw2_0, qrw2_1, qrw2_2, qrw2_3, qrw2_4⟩ := Xrw2.out.open4
    have ⟨qresw2_0, qresw2_1, qresw2_2, qresw2_3⟩ := Xresw2.out.open3
    have ⟨qow2_0, qow2_1, qow2_2, qow2_3⟩ := Xow2.out.open3
    have Iow2 := Lib.hid (Iow1.out.step bw2)
    clear Iow1
    have Fw2 := Lib.hid (show ∀ o, w2.frozen? ⟨w.heap.size + 1 + 1, o, none⟩ = false from fun o => (bw2.frozen (p := ⟨w.heap.size + 1 + 1, o, none⟩) (by show w.heap.size + 1 + 1 < _; omega)).trans (Fw1.out o))
    clear Fw1
    go_wp2_with fail
    refine (specRectOk _ _ _ _ _).mono ?_
    rw [hr]
    rintro e w3 ⟨rfl, hbw3⟩
    have bw3 : Below w2.heap.size w2 w3 := later (by go_grown) hbw3
    have Bw3 : Below w.heap.size w w3 := Bw2.trans (bw3.mono bsw2)
    have sw3 := hbw3.size
    (try simp at sw3)
    have tw3 := bw3.size
    have bsw3 := Bw3.size
    have Xaw3 := Lib.hid (Xaw2.out.step bw3)
    clear Xaw2 qaw2_0 qaw2_1 qaw2_2 qaw2_3
    have Xrw3 := Lib.hid (Xrw2.out.step bw3)
    clear Xrw2 qrw2_0 qrw2_1 qrw2_2 qrw2_3 qrw2_4
    have Xresw3 := Lib.hid (Xresw2.out.step bw3)
    clear Xresw2 qresw2_0 qresw2_1 qresw2_2 qresw2_3
    have Xow3 := Lib.hid (Xow2.out.step bw3)
    clear Xow2 qow2_0 qow2_1 qow2_2 qow2_3
    have ⟨qaw3_0, qaw3_1, qaw3_2, qaw3_3⟩ := Xaw3.out.open3
    have ⟨qrw3_0, qrw3_1, qrw3_2, qrw3_3, qrw3_4⟩ := Xrw3.out.open4
    have ⟨qresw3_0, qresw3_1, qresw3_2, qresw3_3⟩ := Xresw3.out.open3
    have ⟨qow3_0, qow3_1, qow3_2, qow3_3⟩ := Xow3.out.open3
    have Iow3 := Lib.hid (Iow2.out.step bw3)
    clear Iow2
    have Fw3 := Lib.hid (show ∀ o, w3.frozen? ⟨w.heap.size + 1 + 1, o, none⟩ = false from fun o => (bw3.frozen (p := ⟨w.heap.size + 1 + 1, o, none⟩) (by show w.heap.size + 1 + 1 < _; omega)).trans (Fw2.out o))
    clear Fw2
    have fr0 := Fw3.out 0
    have fr1 := Fw3.out 1
    have fr2 := Fw3.out 2
    go_wp2_with fail
    refine bodyPost_ret (v := .agg #[.int .i64 W, .int .i64 H, .slice Aw1 zs.length cw1]) (by simp [results, Try.results22, go_sem, qresw3_1, qresw3_2, qresw3_3]) rfl ?_
    rw [← HV.out]
    refine ⟨Aw1, cw1, rfl, ?_, by go_grown⟩
    have h := Own.far (Own.far (Own.far Iow3.out (p := ⟨w.heap.size + 1 + 1, 0, none⟩) (.inl (by simp)) (.int .i64 W)) (p := ⟨w.heap.size + 1 + 1, 1, none⟩) (.inl (by simp)) (.int .i64 H)) (p := ⟨w.heap.size + 1 + 1, 2, none⟩) (.inl (by simp)) (.slice Aw1 zs.length cw1)
    exact Own.mono h (by omega) (by simp [World.setCell]; try omega) (by simp [World.setCell])
  cases hp : Pl.isPix p
  case false =>
    have HV := Lib.hid (show Pl.Img.mk W H zs = Pl.fill ⟨W, H, zs⟩ ⟨x, y, a, b⟩ p by simp [Pl.fill, hp])
    go_enter Try.func22, Try.ntmps22
    go_wp2_with fail
    refine (l05Copy_all W H A n c lo hi zs _ (G.out.step (by go_grown)) hb).mono ?_
    rintro e w1 ⟨Aw1, cw1, rfl, Ow1, hbw1⟩
    have bw1 : Below w.heap.size w w1 := later (by go_grown) hbw1
    have Bw1 : Below w.heap.size w w1 := Bw.trans (bw1.mono bsw)
    have sw1 := hbw1.size
    (try simp at sw1)
    have tw1 := bw1.size
    have bsw1 := Bw1.size
    have Xaw1 := Lib.hid (Box.of3 hbw1 (w.heap.size) (by first | omega | (simp; done) | (simp; omega)) (v0 := .int .i64 W)  (v1 := .int .i64 H)  (v2 := .slice A n c) (by simp [go_sem]) (by simp [go_sem]) (by simp [go_sem]))
    have Xrw1 := Lib.hid (Box.of4 hbw1 (w.heap.size + 1) (by first | omega | (simp; done) | (simp; omega)) (v0 := .int .i64 x)  (v1 := .int .i64 y)  (v2 := .int .i64 a)  (v3 := .int .i64 b) (by simp [go_sem]) (by simp [go_sem]) (by simp [go_sem]) (by simp [go_sem]))
    have Xresw1 := Lib.hid (Box.of3 hbw1 (w.heap.size + 1 + 1) (by first | omega | (simp; done) | (simp; omega)) (v0 := .int .i64 0)  (v1 := .int .i64 0)  (v2 := .slice none 0 0) (by simp [go_sem]) (by simp [go_sem]) (by simp [go_sem]))
    have ⟨qaw1_0, qaw1_1, qaw1_2, qaw1_3⟩ := Xaw1.out.open3
    have ⟨qrw1_0, qrw1_1, qrw1_2, qrw1_3, qrw1_4⟩ := Xrw1.out.open4
    have ⟨qresw1_0, qresw1_1, qresw1_2, qresw1_3⟩ := Xresw1.out.open3
    have Fw1 := Lib.hid (show ∀ o, w1.frozen? ⟨w.heap.size + 1 + 1, o, none⟩ = false from fun o => (hbw1.frozen (p := ⟨w.heap.size + 1 + 1, o, none⟩) (by first | omega | (simp; done) | (simp; omega))).trans (by simp [go_sem]))
    have Iow1 : Hid (Ints w1 (w.heap.size + 3) w1.heap.size _ _) := Own.mono Ow1 (by (try simp); (try omega)) (Nat.le_refl _) (Nat.le_refl _)
    clear Ow1
    have Gw1 := Lib.hid (G.out.step Bw1)
    go_wp2_with fail
    skip
    refine (specImageOk _ _ _ _ _ lo hi zs _ (Gw1.out.step (by go_grown))).mono ?_
    rw [hok]
    rintro e w2 ⟨rfl, hbw2⟩
    have bw2 : Below w1.heap.size w1 w2 := later (by go_grown) hbw2
    have Bw2 : Below w.heap.size w w2 := Bw1.trans (bw2.mono bsw1)
    have sw2 := hbw2.size
    (try simp at sw2)
    have tw2 := bw2.size
    have bsw2 := Bw2.size
    have Xaw2 := Lib.hid (Xaw1.out.step bw2)
    clear Xaw1 qaw1_0 qaw1_1 qaw1_2 qaw1_3
    have Xrw2 := Lib.hid (Xrw1.out.step bw2)
    clear Xrw1 qrw1_0 qrw1_1 qrw1_2 qrw1_3 qrw1_4
    have Xresw2 := Lib.hid (Xresw1.out.step bw2)
    clear Xresw1 qresw1_0 qresw1_1 qresw1_2 qresw1_3
    have Xow2 := Lib.hid (Box.of3 hbw2 (w1.heap.size) (by first | omega | (simp; done) | (simp; omega)) (v0 := .int .i64 W)  (v1 := .int .i64 H)  (v2 := .slice Aw1 zs.length cw1) (by simp [go_sem]) (by simp [go_sem]) (by simp [go_sem]))
    have ⟨qaw2_0, qaw2_1, qaw2_2, qaw2_3⟩ := Xaw2.out.open3
    have ⟨qrw2_0, qrw2_1, qrw2_2, qrw2_3, qrw2_4⟩ := Xrw2.out.open4
    have ⟨qresw2_0, qresw2_1, qresw2_2, qresw2_3⟩ := Xresw2.out.open3
    have ⟨qow2_0, qow2_1, qow2_2, qow2_3⟩ := Xow2.out.open3
    have Iow2 := Lib.hid (Iow1.out.step bw2)
    clear Iow1
    have Fw2 := Lib.hid (show ∀ o, w2.frozen? ⟨w.heap.size + 1 + 1, o, none⟩ = false from fun o => (bw2.frozen (p := ⟨w.heap.size + 1 + 1, o, none⟩) (by show w.heap.size + 1 + 1 < _; omega)).trans (Fw1.out o))
    clear Fw1
    go_wp2_with fail
    refine (specRectOk _ _ _ _ _).mono ?_
    rw [hr]
    rintro e w3 ⟨rfl, hbw3⟩
    have bw3 : Below w2.heap.size w2 w3 := later (by go_grown) hbw3
    have Bw3 : Below w.heap.size w w3 := Bw2.trans (bw3.mono bsw2)
    have sw3 := hbw3.size
    (try simp at sw3)
    have tw3 := bw3.size
    have bsw3 := Bw3.size
    have Xaw3 := Lib.hid (Xaw2.out.step bw3)
    clear Xaw2 qaw2_0 qaw2_1 qaw2_2 qaw2_3
    have Xrw3 := Lib.hid (Xrw2.out.step bw3)
    clear Xrw2 qrw2_0 qrw2_1 qrw2_2 qrw2_3 qrw2_4
    have Xresw3 := Lib.hid (Xresw2.out.step bw3)
    clear Xresw2 qresw2_0 qresw2_1 qresw2_2 qresw2_3
    have Xow3 := Lib.hid (Xow2.out.step bw3)
    clear Xow2 qow2_0 qow2_1 qow2_2 qow2_3
    have ⟨qaw3_0, qaw3_1, qaw3_2, qaw3_3⟩ := Xaw3.out.open3
    have ⟨qrw3_0, qrw3_1, qrw3_2, qrw3_3, qrw3_4⟩ := Xrw3.out.open4
    have ⟨qresw3_0, qresw3_1, qresw3_2, qresw3_3⟩ := Xresw3.out.open3
    have ⟨qow3_0, qow3_1, qow3_2, qow3_3⟩ := Xow3.out.open3
    have Iow3 := Lib.hid (Iow2.out.step bw3)
    clear Iow2
    have Fw3 := Lib.hid (show ∀ o, w3.frozen? ⟨w.heap.size + 1 + 1, o, none⟩ = false from fun o => (bw3.frozen (p := ⟨w.heap.size + 1 + 1, o, none⟩) (by show w.heap.size + 1 + 1 < _; omega)).trans (Fw2.out o))
    clear Fw2
    have fr0 := Fw3.out 0
    have fr1 := Fw3.out 1
    have fr2 := Fw3.out 2
    go_wp2_with (go_at_call 51; ((with_reducible refine (l04Pixel_any _ _).mono ?_)); rintro e w' ⟨rfl, rfl⟩)
    refine bodyPost_ret (v := .agg #[.int .i64 W, .int .i64 H, .slice Aw1 zs.length cw1]) (by simp [results, Try.results22, go_sem, qresw3_1, qresw3_2, qresw3_3]) rfl ?_
    rw [← HV.out]
    refine ⟨Aw1, cw1, rfl, ?_, by go_grown⟩
    have h := Own.far (Own.far (Own.far Iow3.out (p := ⟨w.heap.size + 1 + 1, 0, none⟩) (.inl (by simp)) (.int .i64 W)) (p := ⟨w.heap.size + 1 + 1, 1, none⟩) (.inl (by simp)) (.int .i64 H)) (p := ⟨w.heap.size + 1 + 1, 2, none⟩) (.inl (by simp)) (.slice Aw1 zs.length cw1)
    exact Own.mono h (by omega) (by simp [World.setCell]; try omega) (by simp [World.setCell])
  obtain ⟨⟨W1, W2⟩, ⟨H1, H2⟩, e3, _⟩ := Pl.imageOk_t hok
  simp only at W1 W2 H1 H2 e3
  obtain ⟨X, rfl⟩ := Int.eq_ofNat_of_zero_le (show 0 ≤ W by omega)
  obtain ⟨Y, rfl⟩ := Int.eq_ofNat_of_zero_le (show 0 ≤ H by omega)
  have EN : Hid (zs.length = X * Y) := by show _ = _; rw [← Int.natCast_mul] at e3; omega
  obtain ⟨cx, cy, cw, ch, ec, b1, b2⟩ := Pl.inter_in (r := ⟨x, y, a, b⟩) (X := X) (Y := Y) (by omega) (by omega) (by omega) (by omega) hr
  have HV := Lib.hid (show (⟨X, Y, Pl.fillTo p X cy cx cw ch zs⟩ : Pl.Img) = Pl.fill ⟨X, Y, zs⟩ ⟨x, y, a, b⟩ p by simp [Pl.fill, hok, Pl.R.ok, hr, hp, ec])
  clear e3
  go_enter Try.func22, Try.ntmps22
  go_wp2_with fail
  refine (l05Copy_all X Y A n c lo hi zs _ (G.out.step (by go_grown)) hb).mono ?_
  rintro e w1 ⟨Aw1, cw1, rfl, Ow1, hbw1⟩
  have bw1 : Below w.heap.size w w1 := later (by go_grown) hbw1
  have Bw1 : Below w.heap.size w w1 := Bw.trans (bw1.mono bsw)
  have sw1 := hbw1.size
  (try simp at sw1)
  have tw1 := bw1.size
  have bsw1 := Bw1.size
  have Xaw1 := Lib.hid (Box.of3 hbw1 (w.heap.size) (by first | omega | (simp; done) | (simp; omega)) (v0 := .int .i64 X)  (v1 := .int .i64 Y)  (v2 := .slice A n c) (by simp [go_sem]) (by simp [go_sem]) (by simp [go_sem]))
  have Xrw1 := Lib.hid (Box.of4 hbw1 (w.heap.size + 1) (by first | omega | (simp; done) | (simp; omega)) (v0 := .int .i64 x)  (v1 := .int .i64 y)  (v2 := .int .i64 a)  (v3 := .int .i64 b) (by simp [go_sem]) (by simp [go_sem]) (by simp [go_sem]) (by simp [go_sem]))
  have Xresw1 := Lib.hid (Box.of3 hbw1 (w.heap.size + 1 + 1) (by first | omega | (simp; done) | (simp; omega)) (v0 := .int .i64 0)  (v1 := .int .i64 0)  (v2 := .slice none 0 0) (by simp [go_sem]) (by simp [go_sem]) (by simp [go_sem]))
  have ⟨qaw1_0, qaw1_1, qaw1_2, qaw1_3⟩ := Xaw1.out.open3
  have ⟨qrw1_0, qrw1_1, qrw1_2, qrw1_3, qrw1_4⟩ := Xrw1.out.open4
  have ⟨qresw1_0, qresw1_1, qresw1_2, qresw1_3⟩ := Xresw1.out.open3
  have Fw1 := Lib.hid (show ∀ o, w1.frozen? ⟨w.heap.size + 1 + 1, o, none⟩ = false from fun o => (hbw1.frozen (p := ⟨w.heap.size + 1 + 1, o, none⟩) (by first | omega | (simp; done) | (simp; omega))).trans (by simp [go_sem]))
  have Iow1 : Hid (Ints w1 (w.heap.size + 3) w1.heap.size _ _) := Own.mono Ow1 (by (try simp); (try omega)) (Nat.le_refl _) (Nat.le_refl _)
  clear Ow1
  have Gw1 := Lib.hid (G.out.step Bw1)
  go_wp2_with fail
  skip
  refine (specImageOk _ _ _ _ _ lo hi zs _ (Gw1.out.step (by go_grown))).mono ?_
  rw [hok]
  rintro e w2 ⟨rfl, hbw2⟩
  have bw2 : Below w1.heap.size w1 w2 := later (by go_grown) hbw2
  have Bw2 : Below w.heap.size w w2 := Bw1.trans (bw2.mono bsw1)
  have sw2 := hbw2.size
  (try simp at sw2)
  have tw2 := bw2.size
  have bsw2 := Bw2.size
  have Xaw2 := Lib.hid (Xaw1.out.step bw2)
  clear Xaw1 qaw1_0 qaw1_1 qaw1_2 qaw1_3
  have Xrw2 := Lib.hid (Xrw1.out.step bw2)
  clear Xrw1 qrw1_0 qrw1_1 qrw1_2 qrw1_3 qrw1_4
  have Xresw2 := Lib.hid (Xresw1.out.step bw2)
  clear Xresw1 qresw1_0 qresw1_1 qresw1_2 qresw1_3
  have Xow2 := Lib.hid (Box.of3 hbw2 (w1.heap.size) (by first | omega | (simp; done) | (simp; omega)) (v0 := .int .i64 X)  (v1 := .int .i64 Y)  (v2 := .slice Aw1 zs.length cw1) (by simp [go_sem]) (by simp [go_sem]) (by simp [go_sem]))
  have ⟨qaw2_0, qaw2_1, qaw2_2, qaw2_3⟩ := Xaw2.out.open3
  have ⟨qrw2_0, qrw2_1, qrw2_2, qrw2_3, qrw2_4⟩ := Xrw2.out.open4
  have ⟨qresw2_0, qresw2_1, qresw2_2, qresw2_3⟩ := Xresw2.out.open3
  have ⟨qow2_0, qow2_1, qow2_2, qow2_3⟩ := Xow2.out.open3
  have Iow2 := Lib.hid (Iow1.out.step bw2)
  clear Iow1
  have Fw2 := Lib.hid (show ∀ o, w2.frozen? ⟨w.heap.size + 1 + 1, o, none⟩ = false from fun o => (bw2.frozen (p := ⟨w.heap.size + 1 + 1, o, none⟩) (by show w.heap.size + 1 + 1 < _; omega)).trans (Fw1.out o))
  clear Fw1
  go_wp2_with fail
  refine (specRectOk _ _ _ _ _).mono ?_
  rw [hr]
  rintro e w3 ⟨rfl, hbw3⟩
  have bw3 : Below w2.heap.size w2 w3 := later (by go_grown) hbw3
  have Bw3 : Below w.heap.size w w3 := Bw2.trans (bw3.mono bsw2)
  have sw3 := hbw3.size
  (try simp at sw3)
  have tw3 := bw3.size
  have bsw3 := Bw3.size
  have Xaw3 := Lib.hid (Xaw2.out.step bw3)
  clear Xaw2 qaw2_0 qaw2_1 qaw2_2 qaw2_3
  have Xrw3 := Lib.hid (Xrw2.out.step bw3)
  clear Xrw2 qrw2_0 qrw2_1 qrw2_2 qrw2_3 qrw2_4
  have Xresw3 := Lib.hid (Xresw2.out.step bw3)
  clear Xresw2 qresw2_0 qresw2_1 qresw2_2 qresw2_3
  have Xow3 := Lib.hid (Xow2.out.step bw3)
  clear Xow2 qow2_0 qow2_1 qow2_2 qow2_3
  have ⟨qaw3_0, qaw3_1, qaw3_2, qaw3_3⟩ := Xaw3.out.open3
  have ⟨qrw3_0, qrw3_1, qrw3_2, qrw3_3, qrw3_4⟩ := Xrw3.out.open4
  have ⟨qresw3_0, qresw3_1, qresw3_2, qresw3_3⟩ := Xresw3.out.open3
  have ⟨qow3_0, qow3_1, qow3_2, qow3_3⟩ := Xow3.out.open3
  have Iow3 := Lib.hid (Iow2.out.step bw3)
  clear Iow2
  have Fw3 := Lib.hid (show ∀ o, w3.frozen? ⟨w.heap.size + 1 + 1, o, none⟩ = false from fun o => (bw3.frozen (p := ⟨w.heap.size + 1 + 1, o, none⟩) (by show w.heap.size + 1 + 1 < _; omega)).trans (Fw2.out o))
  clear Fw2
  go_wp2_with (go_at_call 51; ((with_reducible refine (l04Pixel_any _ _).mono ?_)); rintro e w' ⟨rfl, rfl⟩)
  refine (specIntersect _ _ _ _ _ _ _ _ _).mono ?_
  rw [ec]
  rintro e w4 ⟨rfl, hbw4⟩
  have bw4 : Below w3.heap.size w3 w4 := later (by go_grown) hbw4
  have Bw4 : Below w.heap.size w w4 := Bw3.trans (bw4.mono bsw3)
  have sw4 := hbw4.size
  (try simp at sw4)
  have tw4 := bw4.size
  have bsw4 := Bw4.size
  have Xaw4 := Lib.hid (Xaw3.out.step bw4)
  clear Xaw3 qaw3_0 qaw3_1 qaw3_2 qaw3_3
  have Xrw4 := Lib.hid (Xrw3.out.step bw4)
  clear Xrw3 qrw3_0 qrw3_1 qrw3_2 qrw3_3 qrw3_4
  have Xresw4 := Lib.hid (Xresw3.out.step bw4)
  clear Xresw3 qresw3_0 qresw3_1 qresw3_2 qresw3_3
  have Xow4 := Lib.hid (Xow3.out.step bw4)
  clear Xow3 qow3_0 qow3_1 qow3_2 qow3_3
  have ⟨qaw4_0, qaw4_1, qaw4_2, qaw4_3⟩ := Xaw4.out.open3
  have ⟨qrw4_0, qrw4_1, qrw4_2, qrw4_3, qrw4_4⟩ := Xrw4.out.open4
  have ⟨qresw4_0, qresw4_1, qresw4_2, qresw4_3⟩ := Xresw4.out.open3
  have ⟨qow4_0, qow4_1, qow4_2, qow4_3⟩ := Xow4.out.open3
  have Iow4 := Lib.hid (Iow3.out.step bw4)
  clear Iow3
  have Fw4 := Lib.hid (show ∀ o, w4.frozen? ⟨w.heap.size + 1 + 1, o, none⟩ = false from fun o => (bw4.frozen (p := ⟨w.heap.size + 1 + 1, o, none⟩) (by show w.heap.size + 1 + 1 < _; omega)).trans (Fw3.out o))
  clear Fw3
  go_wp2_with fail
  obtain ⟨g1, hg1⟩ : ∃ g1, Aw1 = some ⟨g1, 0, none⟩ := by
    rcases Iow4.out.head with ⟨_, h0, _, _⟩ | ⟨g1, h1, _⟩
    · exfalso; have h5 := EN.out; have h6 : 1 * 1 ≤ X * Y := Nat.mul_le_mul (by omega) (by omega); omega
    · exact ⟨g1, h1⟩
  subst hg1
  have gl : (w.heap.size + 3) ≤ g1 ∧ g1 < w1.heap.size := by have h := Iow4.out; exact ⟨(h.1.lt g1 rfl).1, h.2.1 g1 rfl⟩
  go_loopw [9] (fun i wr => ∃ q : Nat, cy ≤ q ∧ q ≤ cy + ch ∧ i = .int .i64 q ∧ Hid (Ints wr (w.heap.size + 3) w1.heap.size (.slice (some ⟨g1, 0, none⟩) zs.length cw1) (Pl.fillTo p X cy cx cw (q - cy) zs)) ∧ Out (w.heap.size + 3) w1.heap.size w4 wr ∧ Hid (Box wr w4.heap.size [.int .i64 cx, .int .i64 cy, .int .i64 cw, .int .i64 ch])) (fun i _ => cy + ch - (intOf i).toNat)
  case atStart => exact ⟨cy, by omega, by omega, rfl, by show Ints _ _ _ _ _; rw [Nat.sub_self]; exact Own.alloc Iow4.out _, (Out.refl _ _ _).alloc _, Box.of4 (Below.refl _ _) w4.heap.size (by simp) (by simp [go_sem]) (by simp [go_sem]) (by simp [go_sem]) (by simp [go_sem])⟩
  case round =>
    clear qaw4_0 qaw4_1 qaw4_2 qaw4_3 qrw4_0 qrw4_1 qrw4_2 qrw4_3 qrw4_4 qresw4_0 qresw4_1 qresw4_2 qresw4_3 qow4_0 qow4_1 qow4_2 qow4_3
    obtain ⟨q, hq1, hq2, rfl, GR, ho, XB⟩ := hrel
    have ⟨qb0, qb1, qb2, qb3, qb4⟩ := XB.out.open4
    have s9 := ho.size
    by_cases hlt : q < cy + ch
    · go_wp2_with fail
      obtain ⟨wo, rfl⟩ : ∃ wo : World, wo = wr := ⟨_, rfl⟩
      go_loopw [10] (fun i wr => ∃ t : Nat, cx ≤ t ∧ t ≤ cx + cw ∧ i = .int .i64 t ∧ Hid (Ints wr (w.heap.size + 3) w1.heap.size (.slice (some ⟨g1, 0, none⟩) zs.length cw1) (Pl.fillRow p X q cx (t - cx) (Pl.fillTo p X cy cx cw (q - cy) zs))) ∧ Out (w.heap.size + 3) w1.heap.size w4 wr ∧ Hid (Box wr w4.heap.size [.int .i64 cx, .int .i64 cy, .int .i64 cw, .int .i64 ch])) (fun i _ => cx + cw - (intOf i).toNat)
      case atStart => exact ⟨cx, by omega, by omega, rfl, by show Ints _ _ _ _ _; rw [Nat.sub_self]; exact GR.out, ho, XB⟩
      case round =>
        clear qb0 qb1 qb2 qb3 qb4 s9 GR XB ho
        obtain ⟨t, ht1, ht2, rfl, GT, ho, XB⟩ := hrel
        have ⟨qb0, qb1, qb2, qb3, qb4⟩ := XB.out.open4
        have s9 := ho.size
        by_cases hlt2 : t < cx + cw
        · have ⟨qa0, qa1, qa2, qa3⟩ := (Xaw4.out.out ho (.inl (by omega))).open3
          have ⟨qo0, qo1, qo2, qo3⟩ := (Xow4.out.out ho (.inr (by omega))).open3
          have hix : q * X + t < X * Y := by
            have h1 : (q + 1) * X ≤ Y * X := Nat.mul_le_mul_right X (by omega)
            rw [Nat.succ_mul, Nat.mul_comm Y X] at h1
            omega
          obtain ⟨g', zo, eg, _, _, _, cc, cf⟩ := GT.out.at_ (k := q * X + t) (by rw [EN.out]; exact hix)
          injection eg with eg
          injection eg with eg
          subst eg
          have en := EN.out
          have ⟨j1, j2⟩ := Pl.mul_bd (a := (q : Int)) (b := (X : Int)) (A := 16) (B := 16) (by omega) (by omega) (by omega) (by omega)
          have j3 : (q : Int) * X + t < zs.length := by rw [← Int.natCast_mul, ← Int.natCast_add]; omega
          clear en hix
          go_wp2_with fail
          go_roundw
          case rel =>
            refine ⟨t + 1, by omega, by omega, by go_num, ?_, ?_, ?_⟩
            · show Ints _ _ _ _ _
              rw [← Pl.fillRow_snoc p X q cx _ ht1]
              exact GT.out.stored _ _
            · exact ho.setCell gl.1 gl.2 _
            · exact XB.out.out ((Out.refl (w.heap.size + 3) w1.heap.size wr).setCell gl.1 gl.2 _) (.inr (by omega))
          case measure => simp [intOf]; omega
        · obtain rfl : t = cx + cw := by omega
          go_wp2_with fail
          go_roundw
          case rel =>
            refine ⟨q + 1, by omega, by omega, by go_num, ?_, ho, XB⟩
            show Ints _ _ _ _ _
            rw [← Pl.fillTo_snoc p X cy cx cw _ hq1]
            have h := GT.out
            rw [Nat.add_sub_cancel_left] at h
            exact h
          case measure => simp [intOf]; omega
    · obtain rfl : q = cy + ch := by omega
      have ⟨qo0, qo1, qo2, qo3⟩ := (Xow4.out.out ho (.inr (by omega))).open3
      have ⟨qr0, qr1, qr2, qr3⟩ := (Xresw4.out.out ho (.inl (by omega))).open3
      have fr0 : wr.frozen? ⟨w.heap.size + 1 + 1, 0, none⟩ = false := ((ho.keep (w.heap.size + 1 + 1) (by omega) (.inl (by omega))).2 0).trans (Fw4.out 0)
      have fr1 : wr.frozen? ⟨w.heap.size + 1 + 1, 1, none⟩ = false := ((ho.keep (w.heap.size + 1 + 1) (by omega) (.inl (by omega))).2 1).trans (Fw4.out 1)
      have fr2 : wr.frozen? ⟨w.heap.size + 1 + 1, 2, none⟩ = false := ((ho.keep (w.heap.size + 1 + 1) (by omega) (.inl (by omega))).2 2).trans (Fw4.out 2)
      have B9 : Below w.heap.size w wr := below_out Bw4 ho (by omega) bsw4
      go_wp2_with fail
      refine bodyPost_ret (v := .agg #[.int .i64 X, .int .i64 Y, .slice (some ⟨g1, 0, none⟩) zs.length cw1]) (by simp [results, Try.results22, go_sem, qr1, qr2, qr3]) rfl ?_
      rw [← HV.out]
      have hlen : (Pl.fillTo p X cy cx cw ch zs).length = zs.length := Pl.fillTo_length _ _ _ _ _ _ _
      refine ⟨some ⟨g1, 0, none⟩, cw1, by simp only [hlen], ?_, by go_grown⟩
      simp only [hlen]
      have h0 := GR.out
      rw [Nat.add_sub_cancel_left] at h0
      have h := Own.far (Own.far (Own.far h0 (p := ⟨w.heap.size + 1 + 1, 0, none⟩) (.inl (by simp)) (.int .i64 X)) (p := ⟨w.heap.size + 1 + 1, 1, none⟩) (.inl (by simp)) (.int .i64 Y)) (p := ⟨w.heap.size + 1 + 1, 2, none⟩) (.inl (by simp)) (.slice (some ⟨g1, 0, none⟩) zs.length cw1)
      exact Own.mono h (by omega) (by simp [World.setCell]; try omega) (by simp [World.setCell])
end Go.Proofs.Ytmjjepgnciibcaa
