/- Contracts of the laws' draws: an image. -/
import Derived.Test.YtmjjepgnciibcaaDr
import Derived.Test.YtmjjepgnciibcaaFill
import Derived.Test.YtmjjepgnciibcaaNew
import Derived.Test.YtmjjepgnciibcaaOrd
namespace Go.Proofs.Ytmjjepgnciibcaa
open Go.RowKit
set_option linter.unusedVariables false
set_option linter.unusedSimpArgs false
theorem Cursor.far1 {w : World} {g : Nat} {a : Option Addr} {len cap : Nat} {zs : List Int} (h : Cursor w g a len cap zs) {p : Addr} (hp : g < p.block) (u : Value) : Cursor (w.setCell p u) g a len cap zs := h.keep fun k hk => Below.heap_setCell _ _ _ _ (by omega)
theorem Cursor.drew1 {w : World} {g : Nat} {a : Option Addr} {len cap : Nat} {zs : List Int} (h : Cursor w g a len cap zs) : Cursor w.drew g a len cap zs := h.keep fun _ _ => rfl
theorem Cursor.below1 {w w' : World} {g : Nat} {a : Option Addr} {len cap : Nat} {zs : List Int} (h : Cursor w g a len cap zs) (hb : Below w.heap.size w w') : Cursor w' g a len cap zs := h.below hb h.lt
theorem out_new {lo hi : Nat} {w w' : World} (h : Out lo hi w w') {p : Addr} (hp : w.heap.size ≤ p.block) (u : Value) : Out lo hi w (w'.setCell p u) :=
  ⟨h.os, h.tape, h.output, by simpa [World.setCell] using h.size, fun k hk hg => (Below.heap_setCell _ _ _ _ (by omega)).trans (h.block k hk hg)⟩
theorem Box.far3 {w : World} {b g : Nat} {cs : List Value} (h : Box w b cs) (hne : b ≠ g) (u0 u1 u2 : Value) : Box (((w.setCell ⟨g, 0, none⟩ u0).setCell ⟨g, 1, none⟩ u1).setCell ⟨g, 2, none⟩ u2) b cs :=
  ⟨by simpa [World.setCell] using h.1, fun o v hv => by rw [cell_far hne, cell_far hne, cell_far hne]; exact h.2 o v hv⟩
/-- A drawn image, in new memory. -/
def DrawnImg (most : Nat) (w : World) (g : Nat) (a : Option Addr) (len cap : Nat) (bs : List Int) (e : Ending) (w' : World) : Prop :=
  ∃ (X Y c : Nat) (A : Option Addr) (zs : List Int), e = .returned (.agg #[.int .i64 X, .int .i64 Y, .slice A zs.length c]) ∧ Pl.imageOk ⟨X, Y, zs⟩ = true ∧ X ≤ most ∧ Y ≤ most ∧ Cursor w' g a len cap bs ∧ Ints w' w.heap.size w'.heap.size (.slice A zs.length c) zs ∧ Out g (g + 1) w w'
set_option maxHeartbeats 4000000 in
theorem l05Image_any (g : Nat) (a : Option Addr) (len cap : Nat) (bs : List Int) (most : Nat) (w : World) (hc : Cursor w g a len cap bs) (h1 : 1 ≤ most) (h2 : most ≤ 16) : Calls Try.prog 48 #[.pointer (some ⟨g, 0, none⟩), .int .i64 most] w (DrawnImg most w g a len cap bs) := by
  have HC := Lib.hid hc
  have hl := hc.lt
  clear hc
  go_enter Try.func48, Try.ntmps48
  go_wp2_with fail
  refine (l01Below_any g a len cap bs _ _ (HC.out.alloc _) (by omega) (by omega)).mono ?_
  rintro e w1 ⟨v, ⟨x, x0, x1, rfl⟩, rfl, C1, O1⟩
  have D1 := Lib.hid C1
  have s1 := O1.size
  simp at s1
  have ⟨k1, f1⟩ := O1.keep w.heap.size (by simp) (by omega)
  clear C1
  go_wp2_with fail
  refine (l01Below_any g a len cap bs _ _ D1.out (by omega) (by omega)).mono ?_
  rintro e w2 ⟨v, ⟨y, y0, y1, rfl⟩, rfl, C2, O2⟩
  have D2 := Lib.hid C2
  have s2 := O2.size
  have ⟨k2, f2⟩ := O2.keep w.heap.size (by omega) (by omega)
  clear C2
  obtain ⟨X, hX⟩ := Int.eq_ofNat_of_zero_le (show 0 ≤ 1 + x by omega)
  obtain ⟨Y, hY⟩ := Int.eq_ofNat_of_zero_le (show 0 ≤ 1 + y by omega)
  have X1 : 1 ≤ X := by omega
  have X2 : X ≤ most := by omega
  have Y1 : 1 ≤ Y := by omega
  have Y2 : Y ≤ most := by omega
  go_wp2_with fail
  refine (l04Draw_any g a len cap bs _ D2.out).mono ?_
  rintro e w3 ⟨v, ⟨p, hp, rfl⟩, rfl, C3, O3⟩
  have D3 := Lib.hid C3
  have HP := Lib.hid hp
  have s3 := O3.size
  have ⟨k3, f3⟩ := O3.keep w.heap.size (by omega) (by omega)
  clear C3 hp
  go_wp2_with fail
  obtain ⟨NI1, NI2, NI3⟩ := Pl.newImage_ok (w := (X : Int)) (h := (Y : Int)) (p := p) (Pl.inB_mk (by omega)) (Pl.inB_mk (by omega)) HP.out
  have NK : ∃ zs, Pl.newImage X Y p = ⟨X, Y, zs⟩ := ⟨(Pl.newImage X Y p).d, by cases hh : Pl.newImage (X : Int) (Y : Int) p; rw [hh] at NI2 NI3; simp only at NI2 NI3; subst NI2 NI3; rfl⟩
  obtain ⟨zs0, NK⟩ := NK
  have HN := Lib.hid NK
  have OK0 := Lib.hid (NK ▸ NI1)
  clear NK NI1 NI2 NI3
  refine (specNewImage _ _ _ _).mono ?_
  rw [HN.out]
  rintro e w4 ⟨A4, c4, rfl, I4, hb4⟩
  have ⟨k4, f4, y4⟩ := keep3 hb4 w.heap.size (by omega)
  have D4 := Lib.hid (D3.out.below1 hb4)
  have s4 := hb4.size
  have O4 : Out g (g + 1) w w4 := ((((Out.refl _ _ _).alloc _).trans O1).trans O2).trans (O3.trans (Out.of_below hb4 _ _))
  have IO4 := Lib.hid I4
  have FR := Lib.hid (show ∀ o, w4.frozen? ⟨w.heap.size, o, none⟩ = false from fun o => by rw [f4, f3, f2, f1]; simp [go_sem])
  have BX := Lib.hid (show Box w4 w.heap.size [.int .i64 0, .int .i64 0, .slice none 0 0] from ⟨y4, fun o v hv => by
    rw [k4, k3, k2, k1]
    match o, hv with
    | 0, hv => simp at hv; subst hv; simp [go_sem]
    | 1, hv => simp at hv; subst hv; simp [go_sem]
    | 2, hv => simp at hv; subst hv; simp [go_sem]⟩)
  clear I4 k1 k2 k3 k4 f1 f2 f3 f4
  go_wp2_with fail
  have BI : Box (w4.alloc (.cells #[.int .i64 X, .int .i64 Y, .slice A4 zs0.length c4] 30)) w4.heap.size [.int .i64 X, .int .i64 Y, .slice A4 zs0.length c4] := Box.of3 (Below.refl _ _) _ (by simp) (by simp [go_sem]) (by simp [go_sem]) (by simp [go_sem])
  refine (l01Below_any g a len cap bs _ _ (D4.out.alloc _) (by omega) (by omega)).mono ?_
  rintro e w5 ⟨v, ⟨n, n0, n1, rfl⟩, rfl, C5, O5⟩
  have D5 := Lib.hid C5
  have BI5 := Lib.hid (BI.out O5 (.inr (by omega)))
  have FI5 := Lib.hid (show ∀ o, w5.frozen? ⟨w4.heap.size, o, none⟩ = false from fun o => ((O5.keep w4.heap.size (by simp) (.inr (by omega))).2 o).trans (by simp [go_sem]))
  have BX5 := Lib.hid ((BX.out.step (by go_grown : Below w4.heap.size w4 (w4.alloc (.cells #[.int .i64 X, .int .i64 Y, .slice A4 zs0.length c4] 30)))).out O5 (.inr (by omega)))
  have FX5 := Lib.hid (show ∀ o, w5.frozen? ⟨w.heap.size, o, none⟩ = false from fun o => ((O5.keep w.heap.size (by simp; omega) (.inr (by omega))).2 o).trans ((frozen_old y4).trans (FR.out o)))
  have I5 := Lib.hid (Own.out (Own.alloc IO4.out (.cells #[.int .i64 X, .int .i64 Y, .slice A4 zs0.length c4] 30)) O5 (.inr (by omega)))
  have O05 : Out g (g + 1) w w5 := (O4.alloc _).trans O5
  have s5 := O5.size
  simp at s5
  have g4 : g + 1 ≤ w4.heap.size := by omega
  have w4lt : w.heap.size < w4.heap.size := y4
  obtain ⟨kn, rfl⟩ := Int.eq_ofNat_of_zero_le n0
  clear C5 BI IO4 BX FR
  go_wp2_with fail
  go_loopw [8] (fun i wr => ∃ (k c : Nat) (A : Option Addr) (zs : List Int), k ≤ 3 ∧ i = .int .i64 k ∧ Hid (Pl.imageOk ⟨X, Y, zs⟩ = true) ∧ Hid (Box wr w4.heap.size [.int .i64 X, .int .i64 Y, .slice A zs.length c]) ∧ Hid (∀ o, wr.frozen? ⟨w4.heap.size, o, none⟩ = false) ∧ Hid (Box wr w.heap.size [.int .i64 0, .int .i64 0, .slice none 0 0]) ∧ Hid (∀ o, wr.frozen? ⟨w.heap.size, o, none⟩ = false) ∧
    (∃ lo hi : Nat, w.heap.size < lo ∧ hi ≤ wr.heap.size ∧ (w4.heap.size < lo ∨ hi ≤ w4.heap.size) ∧ Hid (Ints wr lo hi (.slice A zs.length c) zs)) ∧ Hid (Cursor wr g a len cap bs) ∧ Out g (g + 1) w wr) (fun i _ => (intOf i).toNat)
  case atStart => exact ⟨kn, c4, A4, zs0, by omega, rfl, OK0, BI5, FI5, BX5, FX5, ⟨w3.heap.size, w4.heap.size, by omega, by omega, .inr (Nat.le_refl _), I5⟩, D5, O05⟩
  case round =>
    clear BI5 FI5 BX5 FX5 I5 D5 O05
    obtain ⟨k, c, A, zs, hk, rfl, OK, BI, FI, BX, FX, ⟨lo, hi, L1, L2, L3, NI⟩, DC, OO⟩ := hrel
    have sO := OO.size
    have lt4 := BI.out.1
    by_cases h0 : 0 < k
    · obtain ⟨m, rfl⟩ : ∃ m, k = m + 1 := ⟨k - 1, by omega⟩
      have ⟨qi0, qi1, qi2, qi3⟩ := BI.out.open3
      have LZ : zs.length ≤ 1048576 := by
        have hz := (Pl.imageOk_t OK.out).2.2.1
        simp only at hz
        have := Nat.mul_le_mul (show X ≤ 16 by omega) (show Y ≤ 16 by omega)
        rw [← Int.natCast_mul] at hz
        omega
      go_wp2_with fail
      refine regionL (S := (fun w' => w'.cell? ⟨w4.heap.size, 0, none⟩ = some (.int .i64 X) ∧ w'.cell? ⟨w4.heap.size, 1, none⟩ = some (.int .i64 Y) ∧ w'.cell? ⟨w4.heap.size, 2, none⟩ = some (.slice A zs.length c))) (L := 17) (by kernel_rfl) ?_ (fun hHeld => ?_)
      · first | assumption | (refine ⟨?_, ?_, ?_⟩ <;> (first | assumption | (simp only [World.cell?_drew]; assumption)))
      refine takeL (i := 0) (oi := ?_) (v := ?_) ?_ (by kernel_rfl) (by kernel_rfl) (by kernel_rfl) (by kernel_rfl) ?_ (Or.inl ⟨?_, ?_⟩) (by assumption) ?_
      rotate_left 2
      · (simp only [List.getElem?_toArray, List.getElem?_cons_succ, List.getElem?_cons_zero]; rfl)
      · exact fun _ _ _ h => h
      · rfl
      · (intro w hSw; (try dsimp only at hSw); go_simp; (try with_reducible rfl))
      try simp only [Act.put, List.setIfInBounds_toArray, List.set_cons_zero, List.set_cons_succ]
      refine takeL (i := 1) (oi := ?_) (v := ?_) ?_ (by kernel_rfl) (by kernel_rfl) (by kernel_rfl) (by kernel_rfl) ?_ (Or.inl ⟨?_, ?_⟩) (by assumption) ?_
      rotate_left 2
      · (simp only [List.getElem?_toArray, List.getElem?_cons_succ, List.getElem?_cons_zero]; rfl)
      · exact fun _ _ _ h => h
      · rfl
      · (intro w hSw; (try dsimp only at hSw); go_simp; (try with_reducible rfl))
      try simp only [Act.put, List.setIfInBounds_toArray, List.set_cons_zero, List.set_cons_succ]
      refine takeL (i := 2) (oi := ?_) (v := ?_) ?_ (by kernel_rfl) (by kernel_rfl) (by kernel_rfl) (by kernel_rfl) ?_ (Or.inl ⟨?_, ?_⟩) (by assumption) ?_
      rotate_left 2
      · (simp only [List.getElem?_toArray, List.getElem?_cons_succ, List.getElem?_cons_zero]; rfl)
      · exact fun _ _ _ h => h
      · rfl
      · (intro w hSw; (try dsimp only at hSw); go_simp; (try with_reducible rfl))
      try simp only [Act.put, List.setIfInBounds_toArray, List.set_cons_zero, List.set_cons_succ]
      refine takeL (i := 4) (oi := ?_) (v := ?_) ?_ (by kernel_rfl) (by kernel_rfl) (by kernel_rfl) (by kernel_rfl) ?_ (Or.inl ⟨?_, ?_⟩) (by assumption) ?_
      rotate_left 2
      · (simp only [List.getElem?_toArray, List.getElem?_cons_succ, List.getElem?_cons_zero]; rfl)
      · exact fun _ _ _ h => h
      · rfl
      · (intro w hSw; (try dsimp only at hSw); go_simp; (try with_reducible rfl))
      try simp only [Act.put, List.setIfInBounds_toArray, List.set_cons_zero, List.set_cons_succ]
      refine takeL (i := 5) (oi := ?_) (v := ?_) ?_ (by kernel_rfl) (by kernel_rfl) (by kernel_rfl) (by kernel_rfl) ?_ (Or.inl ⟨?_, ?_⟩) (by assumption) ?_
      rotate_left 2
      · (simp only [List.getElem?_toArray, List.getElem?_cons_succ, List.getElem?_cons_zero]; rfl)
      · exact fun _ _ _ h => h
      · rfl
      · (intro w hSw; (try dsimp only at hSw); go_simp; (try with_reducible rfl))
      try simp only [Act.put, List.setIfInBounds_toArray, List.set_cons_zero, List.set_cons_succ]
      refine takeL (i := 7) (oi := ?_) (v := ?_) ?_ (by kernel_rfl) (by kernel_rfl) (by kernel_rfl) (by kernel_rfl) ?_ (Or.inl ⟨?_, ?_⟩) (by assumption) ?_
      rotate_left 2
      · (simp only [List.getElem?_toArray, List.getElem?_cons_succ, List.getElem?_cons_zero]; rfl)
      · exact fun _ _ _ h => h
      · rfl
      · (intro w hSw; (try dsimp only at hSw); go_simp; (try with_reducible rfl))
      try simp only [Act.put, List.setIfInBounds_toArray, List.set_cons_zero, List.set_cons_succ]
      refine takeL (i := 10) (oi := ?_) (v := ?_) ?_ (by kernel_rfl) (by kernel_rfl) (by kernel_rfl) (by kernel_rfl) ?_ (Or.inl ⟨?_, ?_⟩) (by assumption) ?_
      rotate_left 2
      · (simp only [List.getElem?_toArray, List.getElem?_cons_succ, List.getElem?_cons_zero]; rfl)
      · exact fun _ _ _ h => h
      · rfl
      · (intro w hSw; (try dsimp only at hSw); go_simp; (try with_reducible rfl))
      try simp only [Act.put, List.setIfInBounds_toArray, List.set_cons_zero, List.set_cons_succ]
      refine takeL (i := 14) (oi := ?_) (v := ?_) ?_ (by kernel_rfl) (by kernel_rfl) (by kernel_rfl) (by kernel_rfl) ?_ (Or.inl ⟨?_, ?_⟩) (by assumption) ?_
      rotate_left 2
      · (simp only [List.getElem?_toArray, List.getElem?_cons_succ, List.getElem?_cons_zero]; rfl)
      · exact fun _ _ _ h => h
      · rfl
      · (intro w hSw; (try dsimp only at hSw); go_simp; (try with_reducible rfl))
      try simp only [Act.put, List.setIfInBounds_toArray, List.set_cons_zero, List.set_cons_succ]
      refine readyL (rs := [3]) (by kernel_rfl) (by simp) ?_
      refine AllReadyL.cons (o := ?_) ?_ (fun K hK => ?_) AllReadyL.none_
      rotate_left
      · (simp only [List.getElem?_toArray, List.getElem?_cons_succ, List.getElem?_cons_zero]; rfl)
      go_simp
      go_at_call 73
      ((with_reducible refine (l01Below_any g a len cap bs _ _ (Cursor.drew1 DC.out) (by omega) (by omega)).mono ?_))
      rintro e w6 ⟨v, ⟨rx, rx0, rx1, rfl⟩, rfl, Cw6, Ow6⟩
      have Dw6 := Lib.hid Cw6
      clear Cw6
      have tw6 := Ow6.size
      (try simp at tw6)
      have ⟨cw6, _⟩ := Ow6.keep w4.heap.size (by first | exact lt4 | omega) (.inr g4)
      have dw60 : w6.cell? ⟨w4.heap.size, 0, none⟩ = some (.int .i64 X) := (cw6 0).trans (by first | assumption | (simp only [World.cell?_drew]; assumption))
      have dw61 : w6.cell? ⟨w4.heap.size, 1, none⟩ = some (.int .i64 Y) := (cw6 1).trans (by first | assumption | (simp only [World.cell?_drew]; assumption))
      have dw62 : w6.cell? ⟨w4.heap.size, 2, none⟩ = some (.slice A zs.length c) := (cw6 2).trans (by first | assumption | (simp only [World.cell?_drew]; assumption))
      clear cw6
      have wfx : IntKind.i64.wrap (1 + rx) = 1 + rx := IntWalk.i64_in _ ⟨by omega, by omega⟩
      refine hK.out _ _ ?_ (fun hHeld => ?_)
      · first | assumption | (refine ⟨?_, ?_, ?_⟩ <;> (first | assumption | (simp only [World.cell?_drew]; assumption)))
      clear hK K
      try simp only [Act.put, List.setIfInBounds_toArray, List.set_cons_zero, List.set_cons_succ]
      refine readyL (rs := [6]) (by kernel_rfl) (by simp) ?_
      refine AllReadyL.cons (o := ?_) ?_ (fun K hK => ?_) AllReadyL.none_
      rotate_left
      · (simp only [List.getElem?_toArray, List.getElem?_cons_succ, List.getElem?_cons_zero]; rfl)
      go_simp
      go_at_call 73
      ((with_reducible refine (l01Below_any g a len cap bs _ _ Dw6.out (by omega) (by omega)).mono ?_))
      rintro e w7 ⟨v, ⟨ry, ry0, ry1, rfl⟩, rfl, Cw7, Ow7⟩
      have Dw7 := Lib.hid Cw7
      clear Cw7
      have tw7 := Ow7.size
      (try simp at tw7)
      have ⟨cw7, _⟩ := Ow7.keep w4.heap.size (by first | exact lt4 | omega) (.inr g4)
      have dw70 : w7.cell? ⟨w4.heap.size, 0, none⟩ = some (.int .i64 X) := (cw7 0).trans (by first | assumption | (simp only [World.cell?_drew]; assumption))
      have dw71 : w7.cell? ⟨w4.heap.size, 1, none⟩ = some (.int .i64 Y) := (cw7 1).trans (by first | assumption | (simp only [World.cell?_drew]; assumption))
      have dw72 : w7.cell? ⟨w4.heap.size, 2, none⟩ = some (.slice A zs.length c) := (cw7 2).trans (by first | assumption | (simp only [World.cell?_drew]; assumption))
      clear cw7
      have wfy : IntKind.i64.wrap (1 + ry) = 1 + ry := IntWalk.i64_in _ ⟨by omega, by omega⟩
      refine hK.out _ _ ?_ (fun hHeld => ?_)
      · first | assumption | (refine ⟨?_, ?_, ?_⟩ <;> (first | assumption | (simp only [World.cell?_drew]; assumption)))
      clear hK K
      try simp only [Act.put, List.setIfInBounds_toArray, List.set_cons_zero, List.set_cons_succ]
      refine readyL (rs := [8]) (by kernel_rfl) (by simp) ?_
      refine AllReadyL.cons (o := ?_) ?_ (fun K hK => ?_) AllReadyL.none_
      rotate_left
      · (simp only [List.getElem?_toArray, List.getElem?_cons_succ, List.getElem?_cons_zero]; rfl)
      go_simp
      go_at_call 73
      ((with_reducible refine (l01Below_any g a len cap bs _ _ Dw7.out (by omega) (by omega)).mono ?_))
      rintro e w8 ⟨v, ⟨ra, ra0, ra1, rfl⟩, rfl, Cw8, Ow8⟩
      have Dw8 := Lib.hid Cw8
      clear Cw8
      have tw8 := Ow8.size
      (try simp at tw8)
      have ⟨cw8, _⟩ := Ow8.keep w4.heap.size (by first | exact lt4 | omega) (.inr g4)
      have dw80 : w8.cell? ⟨w4.heap.size, 0, none⟩ = some (.int .i64 X) := (cw8 0).trans (by first | assumption | (simp only [World.cell?_drew]; assumption))
      have dw81 : w8.cell? ⟨w4.heap.size, 1, none⟩ = some (.int .i64 Y) := (cw8 1).trans (by first | assumption | (simp only [World.cell?_drew]; assumption))
      have dw82 : w8.cell? ⟨w4.heap.size, 2, none⟩ = some (.slice A zs.length c) := (cw8 2).trans (by first | assumption | (simp only [World.cell?_drew]; assumption))
      clear cw8
      have wfa : IntKind.i64.wrap (1 + ra) = 1 + ra := IntWalk.i64_in _ ⟨by omega, by omega⟩
      refine hK.out _ _ ?_ (fun hHeld => ?_)
      · first | assumption | (refine ⟨?_, ?_, ?_⟩ <;> (first | assumption | (simp only [World.cell?_drew]; assumption)))
      clear hK K
      try simp only [Act.put, List.setIfInBounds_toArray, List.set_cons_zero, List.set_cons_succ]
      refine takeL (i := 9) (oi := ?_) (v := ?_) ?_ (by kernel_rfl) (by kernel_rfl) (by kernel_rfl) (by kernel_rfl) ?_ (Or.inl ⟨?_, ?_⟩) (by assumption) ?_
      rotate_left 2
      · (simp only [List.getElem?_toArray, List.getElem?_cons_succ, List.getElem?_cons_zero]; rfl)
      · exact fun _ _ _ h => h
      · rfl
      · (intro w hSw; (try dsimp only at hSw); go_simp; (try with_reducible rfl))
      try simp only [Act.put, List.setIfInBounds_toArray, List.set_cons_zero, List.set_cons_succ]
      refine readyL (rs := [11]) (by kernel_rfl) (by simp) ?_
      refine AllReadyL.cons (o := ?_) ?_ (fun K hK => ?_) AllReadyL.none_
      rotate_left
      · (simp only [List.getElem?_toArray, List.getElem?_cons_succ, List.getElem?_cons_zero]; rfl)
      go_simp
      go_at_call 73
      ((with_reducible refine (l01Below_any g a len cap bs _ _ Dw8.out (by omega) (by omega)).mono ?_))
      rintro e w9 ⟨v, ⟨rb, rb0, rb1, rfl⟩, rfl, Cw9, Ow9⟩
      have Dw9 := Lib.hid Cw9
      clear Cw9
      have tw9 := Ow9.size
      (try simp at tw9)
      have ⟨cw9, _⟩ := Ow9.keep w4.heap.size (by first | exact lt4 | omega) (.inr g4)
      have dw90 : w9.cell? ⟨w4.heap.size, 0, none⟩ = some (.int .i64 X) := (cw9 0).trans (by first | assumption | (simp only [World.cell?_drew]; assumption))
      have dw91 : w9.cell? ⟨w4.heap.size, 1, none⟩ = some (.int .i64 Y) := (cw9 1).trans (by first | assumption | (simp only [World.cell?_drew]; assumption))
      have dw92 : w9.cell? ⟨w4.heap.size, 2, none⟩ = some (.slice A zs.length c) := (cw9 2).trans (by first | assumption | (simp only [World.cell?_drew]; assumption))
      clear cw9
      have wfb : IntKind.i64.wrap (1 + rb) = 1 + rb := IntWalk.i64_in _ ⟨by omega, by omega⟩
      refine hK.out _ _ ?_ (fun hHeld => ?_)
      · first | assumption | (refine ⟨?_, ?_, ?_⟩ <;> (first | assumption | (simp only [World.cell?_drew]; assumption)))
      clear hK K
      try simp only [Act.put, List.setIfInBounds_toArray, List.set_cons_zero, List.set_cons_succ]
      refine takeL (i := 12) (oi := ?_) (v := ?_) ?_ (by kernel_rfl) (by kernel_rfl) (by kernel_rfl) (by kernel_rfl) ?_ (Or.inl ⟨?_, ?_⟩) (by assumption) ?_
      rotate_left 2
      · (simp only [List.getElem?_toArray, List.getElem?_cons_succ, List.getElem?_cons_zero]; rfl)
      · exact fun _ _ _ h => h
      · rfl
      · (intro w hSw; (try dsimp only at hSw); go_simp; (try with_reducible rfl))
      try simp only [Act.put, List.setIfInBounds_toArray, List.set_cons_zero, List.set_cons_succ]
      refine takeL (i := 13) (oi := ?_) (v := ?_) ?_ (by kernel_rfl) (by kernel_rfl) (by kernel_rfl) (by kernel_rfl) ?_ (Or.inl ⟨?_, ?_⟩) (by assumption) ?_
      rotate_left 2
      · (simp only [List.getElem?_toArray, List.getElem?_cons_succ, List.getElem?_cons_zero]; rfl)
      · exact fun _ _ _ h => h
      · rfl
      · (intro w hSw; (try dsimp only at hSw); go_simp; (try with_reducible rfl))
      try simp only [Act.put, List.setIfInBounds_toArray, List.set_cons_zero, List.set_cons_succ]
      refine readyL (rs := [15]) (by kernel_rfl) (by simp) ?_
      refine AllReadyL.cons (o := ?_) ?_ (fun K hK => ?_) AllReadyL.none_
      rotate_left
      · (simp only [List.getElem?_toArray, List.getElem?_cons_succ, List.getElem?_cons_zero]; rfl)
      go_simp
      go_at_call 75
      ((with_reducible refine (l04Draw_any g a len cap bs _ Dw9.out).mono ?_))
      rintro e w10 ⟨v, ⟨q, hq, rfl⟩, rfl, Cw10, Ow10⟩
      have Dw10 := Lib.hid Cw10
      have HQ := Lib.hid hq
      clear Cw10 hq
      have tw10 := Ow10.size
      (try simp at tw10)
      have ⟨cw10, _⟩ := Ow10.keep w4.heap.size (by first | exact lt4 | omega) (.inr g4)
      have dw100 : w10.cell? ⟨w4.heap.size, 0, none⟩ = some (.int .i64 X) := (cw10 0).trans (by first | assumption | (simp only [World.cell?_drew]; assumption))
      have dw101 : w10.cell? ⟨w4.heap.size, 1, none⟩ = some (.int .i64 Y) := (cw10 1).trans (by first | assumption | (simp only [World.cell?_drew]; assumption))
      have dw102 : w10.cell? ⟨w4.heap.size, 2, none⟩ = some (.slice A zs.length c) := (cw10 2).trans (by first | assumption | (simp only [World.cell?_drew]; assumption))
      clear cw10
      refine hK.out _ _ ?_ (fun hHeld => ?_)
      · first | assumption | (refine ⟨?_, ?_, ?_⟩ <;> (first | assumption | (simp only [World.cell?_drew]; assumption)))
      clear hK K
      try simp only [Act.put, List.setIfInBounds_toArray, List.set_cons_zero, List.set_cons_succ]
      refine readyL (rs := [16]) (by kernel_rfl) (by simp) ?_
      refine AllReadyL.cons (o := ?_) ?_ (fun K hK => ?_) AllReadyL.none_
      rotate_left
      · (simp only [List.getElem?_toArray, List.getElem?_cons_succ, List.getElem?_cons_zero]; rfl)
      go_simp
      have OA : Out g (g + 1) wr w10 := ((((Out.refl _ _ wr).drew.trans Ow6).trans Ow7).trans Ow8).trans (Ow9.trans Ow10)
      have NA : Hid (Ints w10 lo hi (.slice A zs.length c) zs) := Own.out NI.out OA (.inr (by omega))
      obtain ⟨OK9, W9, H9⟩ := Pl.fill_ok ⟨rx, ry, 1 + ra, 1 + rb⟩ q OK.out
      obtain ⟨zs9, EF⟩ : ∃ zs9, Pl.fill ⟨X, Y, zs⟩ ⟨rx, ry, 1 + ra, 1 + rb⟩ q = ⟨X, Y, zs9⟩ := ⟨(Pl.fill ⟨X, Y, zs⟩ ⟨rx, ry, 1 + ra, 1 + rb⟩ q).d, by cases hh : Pl.fill ⟨X, Y, zs⟩ ⟨rx, ry, 1 + ra, 1 + rb⟩ q; rw [hh] at W9 H9; simp only at W9 H9; subst W9 H9; rfl⟩
      have HEF := Lib.hid EF
      rw [EF] at OK9
      have HOK9 := Lib.hid OK9
      clear EF OK9 W9 H9
      go_at_call 22
      ((with_reducible refine (specFill X Y A zs.length c lo hi zs rx ry (1 + ra) (1 + rb) q _ NA.out LZ).mono ?_))
      rw [HEF.out]
      rintro e w11 ⟨A9, c9, rfl, I9, hb9⟩
      dsimp only
      have I9' : Hid (Ints w11 w10.heap.size w11.heap.size (.slice A9 zs9.length c9) zs9) := I9
      clear I9
      have tw11 := hb9.size
      have e0 : w11.cell? ⟨w4.heap.size, 0, none⟩ = some (.int .i64 X) := (hb9.cell (p := ⟨w4.heap.size, 0, none⟩) (by show w4.heap.size < w10.heap.size; omega)).trans dw100
      have e1 : w11.cell? ⟨w4.heap.size, 1, none⟩ = some (.int .i64 Y) := (hb9.cell (p := ⟨w4.heap.size, 1, none⟩) (by show w4.heap.size < w10.heap.size; omega)).trans dw101
      have e2 : w11.cell? ⟨w4.heap.size, 2, none⟩ = some (.slice A zs.length c) := (hb9.cell (p := ⟨w4.heap.size, 2, none⟩) (by show w4.heap.size < w10.heap.size; omega)).trans dw102
      have FZ := Lib.hid (fun o => (hb9.frozen (p := ⟨w4.heap.size, o, none⟩) (by show w4.heap.size < w10.heap.size; omega)).trans (((OA.keep w4.heap.size lt4 (.inr g4)).2 o).trans (FI.out o)))
      have fz0 := FZ.out 0
      have fz1 := FZ.out 1
      have fz2 := FZ.out 2
      refine hK.out _ _ ?_ (fun hHeld => ?_)
      · first | assumption | (refine ⟨?_, ?_, ?_⟩ <;> (first | assumption | (simp only [World.cell?_drew]; assumption)))
      clear hK K
      try simp only [Act.put, List.setIfInBounds_toArray, List.set_cons_zero, List.set_cons_succ]
      refine readyL (rs := [17]) (by kernel_rfl) (by simp) ?_
      refine AllReadyL.last (o := ?_) ?_ (fun K hK => ?_)
      rotate_left
      · (simp only [List.getElem?_toArray, List.getElem?_cons_succ, List.getElem?_cons_zero]; rfl)
      go_simp
      refine hK.out _ _ ?_
      clear hK K
      try simp only [Act.put, List.setIfInBounds_toArray, List.set_cons_zero, List.set_cons_succ]
      refine doneL (by kernel_rfl) ?_ _
      clear wfx wfy wfa wfb fz0 fz1 fz2
      have DC11 := Lib.hid (Dw10.out.below1 hb9)
      have ww : w.heap.size < w11.heap.size := by omega
      have BX11 := Lib.hid (((BX.out.out OA (.inr (by omega))).step hb9))
      have FX11 := Lib.hid (fun o => (hb9.frozen (p := ⟨w.heap.size, o, none⟩) (by show w.heap.size < w10.heap.size; omega)).trans (((OA.keep w.heap.size (by omega) (.inr (by omega))).2 o).trans (FX.out o)))
      have O11 : Out g (g + 1) w w11 := (OO.trans OA).trans (Out.of_below hb9 _ _)
      have BS := Lib.hid (Box.set3 (v0 := .int .i64 X) (v1 := .int .i64 Y) (v2 := .slice A9 zs9.length c9) e0 e1 e2)
      clear e0 e1 e2
      go_wp2_with fail
      go_roundw
      case rel =>
        refine ⟨m, c9, A9, zs9, by omega, by first | rfl | go_num | simp, HOK9, BS, ?_, ?_, ?_, ⟨w10.heap.size, w11.heap.size, by omega, by simp [World.setCell], .inl (by omega), Lib.hid (Ints.setc3 I9'.out (.inl (by omega)) _ _ _)⟩, ?_, ?_⟩
        · exact Lib.hid fun o => by simpa [World.frozen?_setCell] using FZ.out o
        · exact Lib.hid (Box.far3 BX11.out (by omega) _ _ _)
        · exact Lib.hid fun o => by simpa [World.frozen?_setCell] using FX11.out o
        · exact Lib.hid (((DC11.out.far1 (p := ⟨w4.heap.size, 0, none⟩) (by show g < w4.heap.size; omega) _).far1 (p := ⟨w4.heap.size, 1, none⟩) (by show g < w4.heap.size; omega) _).far1 (p := ⟨w4.heap.size, 2, none⟩) (by show g < w4.heap.size; omega) _)
        · exact out_new (out_new (out_new O11 (p := ⟨w4.heap.size, 0, none⟩) (by show _ ≤ w4.heap.size; omega) _) (p := ⟨w4.heap.size, 1, none⟩) (by show _ ≤ w4.heap.size; omega) _) (p := ⟨w4.heap.size, 2, none⟩) (by show _ ≤ w4.heap.size; omega) _
      case measure => first | (simp [intOf]; done) | (simp [intOf]; omega)
    · obtain rfl : k = 0 := by omega
      have ⟨qi0, qi1, qi2, qi3⟩ := BI.out.open3
      have ⟨qx0, qx1, qx2, qx3⟩ := BX.out.open3
      have fx0 := FX.out 0
      have fx1 := FX.out 1
      have fx2 := FX.out 2
      go_wp2_with fail
      refine bodyPost_ret (v := .agg #[.int .i64 (X : Int), .int .i64 (Y : Int), .slice A zs.length c]) (by simp [results, Try.results48, go_sem, qx1, qx2, qx3]) rfl ?_
      refine ⟨X, Y, c, A, zs, rfl, OK.out, X2, Y2, ?_, ?_, ?_⟩
      · exact ((DC.out.far1 (p := ⟨w.heap.size, 0, none⟩) hl _).far1 (p := ⟨w.heap.size, 1, none⟩) hl _).far1 (p := ⟨w.heap.size, 2, none⟩) hl _
      · have hh := Own.far (Own.far (Own.far NI.out (p := ⟨w.heap.size, 0, none⟩) (.inl L1) (.int .i64 X)) (p := ⟨w.heap.size, 1, none⟩) (.inl L1) (.int .i64 Y)) (p := ⟨w.heap.size, 2, none⟩) (.inl L1) (.slice A zs.length c)
        exact Own.mono hh (by omega) (by simpa [World.setCell] using L2) (by simp [World.setCell])
      · exact out_new (out_new (out_new OO (p := ⟨w.heap.size, 0, none⟩) (Nat.le_refl _) _) (p := ⟨w.heap.size, 1, none⟩) (Nat.le_refl _) _) (p := ⟨w.heap.size, 2, none⟩) (Nat.le_refl _) _
/-- A valid image, in new memory. -/
def SomeImg (w : World) (e : Ending) (w' : World) : Prop := ∃ (X Y c : Nat) (A : Option Addr) (zs : List Int), e = .returned (.agg #[.int .i64 X, .int .i64 Y, .slice A zs.length c]) ∧ Pl.imageOk ⟨X, Y, zs⟩ = true ∧ X ≤ 8 ∧ Y ≤ 8 ∧ Ints w' w.heap.size w'.heap.size (.slice A zs.length c) zs ∧ Below w.heap.size w w'
set_option maxHeartbeats 1000000 in
theorem drawImage (a : Option Addr) (len cap : Nat) (bs : List Int) (w : World) (hr : IsRow .u8 w a len cap bs) (hl : len ≤ 1048576) : Calls Try.prog 21 #[.slice a len cap] w (SomeImg w) := by
  have HR := Lib.hid (isRow_keep hr (w' := w.alloc (.cells #[.int .i64 0, .int .i64 0, .slice none 0 0] 30)) fun x hx hcp => by
    have := isRow_lt hr x hx hcp
    rw [Below.heap_alloc _ _ _ this])
  clear hr
  go_enter Try.func21, Try.ntmps21
  go_wp2_with fail
  refine (l01New_any a len cap bs _ HR.out hl).mono ?_
  rintro e w1 ⟨g, rfl, hg, C1, hb1, hs1⟩
  have D1 := Lib.hid C1
  simp only [World.size_alloc] at hg
  have ⟨k1, f1, y1⟩ := keep3 hb1 w.heap.size (by simp)
  have B1 : Below w.heap.size w w1 := later (by go_grown) hb1
  have HG := Lib.hid hg
  have HK1 := Lib.hid k1
  have HF1 := Lib.hid f1
  clear C1 hg hs1 k1 f1
  go_wp2_with fail
  refine (l05Image_any g a len cap bs 8 _ D1.out (by omega) (by omega)).mono ?_
  rintro e w2 ⟨X, Y, c, A, zs, rfl, ok, X2, Y2, C2, I2, O2⟩
  have OK := Lib.hid ok
  have II := Lib.hid I2
  have hgg := HG.out
  have s1 := hb1.size
  have s2 := O2.size
  simp only [World.size_alloc] at s1
  have ⟨k2, f2⟩ := O2.keep w.heap.size y1 (.inl (by omega))
  have B2 : Below w.heap.size w w2 := below_out B1 O2 (by omega) (by omega)
  have c0 : w2.cell? ⟨w.heap.size, 0, none⟩ = some (.int .i64 0) := by rw [k2, HK1.out]; simp [go_sem]
  have c1 : w2.cell? ⟨w.heap.size, 1, none⟩ = some (.int .i64 0) := by rw [k2, HK1.out]; simp [go_sem]
  have c2 : w2.cell? ⟨w.heap.size, 2, none⟩ = some (.slice none 0 0) := by rw [k2, HK1.out]; simp [go_sem]
  have z0 : w2.frozen? ⟨w.heap.size, 0, none⟩ = false := by rw [f2, HF1.out]; simp [go_sem]
  have z1 : w2.frozen? ⟨w.heap.size, 1, none⟩ = false := by rw [f2, HF1.out]; simp [go_sem]
  have z2 : w2.frozen? ⟨w.heap.size, 2, none⟩ = false := by rw [f2, HF1.out]; simp [go_sem]
  have y2 : w.heap.size < w2.heap.size := by omega
  clear ok I2 C2 k2 f2 hgg
  go_wp2_with fail
  refine bodyPost_ret (v := .agg #[.int .i64 (X : Int), .int .i64 (Y : Int), .slice A zs.length c]) (by simp [results, Try.results21, go_sem, c0, c1, c2]) rfl ?_
  refine ⟨X, Y, c, A, zs, rfl, OK.out, X2, Y2, ?_, by go_grown⟩
  have hh := Own.far (Own.far (Own.far II.out (p := ⟨w.heap.size, 0, none⟩) (.inl (by show w.heap.size < w1.heap.size; omega)) (.int .i64 X)) (p := ⟨w.heap.size, 1, none⟩) (.inl (by show w.heap.size < w1.heap.size; omega)) (.int .i64 Y)) (p := ⟨w.heap.size, 2, none⟩) (.inl (by show w.heap.size < w1.heap.size; omega)) (.slice A zs.length c)
  exact Own.mono hh (by omega) (by simp [World.setCell]) (by simp [World.setCell])
end Go.Proofs.Ytmjjepgnciibcaa
