/- Contracts of the laws' draws: regions. -/
import Derived.Test.YtlnailpefdlnnaaDrR2
import Derived.Test.YtlnailpefdlnnaaOrd
import Derived.Deep.Cut
namespace Go.Proofs.Ytlnailpefdlnnaa
open Go.RowKit
set_option linter.unusedVariables false
set_option linter.unusedSimpArgs false
/-- A drawn region: the canonical form of some list. -/
def DrawnReg (w : World) (g : Nat) (a : Option Addr) (len cap : Nat) (zs : List Int) (e : Ending) (w' : World) : Prop :=
  ∃ (L : List Pl.R) (A : Option Addr) (c : Nat), e = .returned (.agg #[.slice A (Pl.regionOf L).length c]) ∧ Recs w' w.heap.size w'.heap.size (.slice A (Pl.regionOf L).length c) (Pl.regionOf L) ∧ Cursor w' g a len cap zs ∧ Out g (g + 1) w w'
set_option maxHeartbeats 4000000 in
theorem l03Region_any (g : Nat) (a : Option Addr) (len cap : Nat) (zs : List Int) (w : World) (hc : Cursor w g a len cap zs) : Calls Try.prog 63 #[.pointer (some ⟨g, 0, none⟩)] w (DrawnReg w g a len cap zs) := by
  have HC := Lib.hid hc
  have hl := hc.lt
  clear hc
  go_enter Try.func63, Try.ntmps63
  go_wp2_with fail
  refine (l03Rects_any g a len cap zs _ (HC.out.alloc _)).mono ?_
  rintro e w1 ⟨rs, A1, c1, hrs, rfl, I1, C1, O1⟩
  have P1 := Lib.hid I1
  have D1 := Lib.hid C1
  have VR1 := Lib.hid (VB.out (VB.new (w := w) (b := w.heap.size) (t := 29) (cs := [.slice none 0 0]) rfl) O1 (by omega))
  have OO1 : Hid (Out g (g + 1) w w1) := Lib.hid (((Out.refl _ _ _).alloc _).trans O1)
  have l1 := VR1.out.lt
  clear I1 C1 O1
  go_wp2_with fail
  refine (specRegionOf A1 rs.length c1 rs _ (Recs.arg P1.out) rfl (by omega)).mono ?_
  rintro e w2 ⟨A2, c2, rfl, I2, B2⟩
  have P2 := Lib.hid I2
  have D2 := Lib.hid (D1.out.below B2 D1.out.lt)
  have VR2 := Lib.hid (VR1.out.step B2)
  have OO2 : Hid (Out g (g + 1) w w2) := Lib.hid (OO1.out.trans (Out.of_below B2 _ _))
  have BB2 := Lib.hid B2
  obtain ⟨lr, cr, fr⟩ := VR2.out.open1
  clear I2 B2
  go_wp2_with fail
  refine bodyPost_ret (v := .agg #[.slice A2 (Pl.regionOf rs).length c2]) (by simp [results, Try.results63, go_sem, cr]) rfl ⟨rs, A2, c2, rfl, ?_, D2.out.far (p := ⟨w.heap.size, 0, none⟩) hl _, ?_⟩
  · have h1 := Own.far (p := ⟨w.heap.size, 0, none⟩) P2.out (by left; exact l1) (.slice A2 (Pl.regionOf rs).length c2)
    exact Own.mono h1 (by have := OO1.out.size; omega) (by simp [World.setCell]) (Nat.le_refl _)
  · have O := OO2.out
    exact ⟨O.os, O.tape, O.output, by simpa [World.setCell] using O.size, fun k hk hg => by
      have e4 : ∀ (W : World) (o : Nat) (u : Value), (W.setCell ⟨w.heap.size, o, none⟩ u).heap[k]? = W.heap[k]? := fun W o u => Below.heap_setCell _ _ _ _ (by show k ≠ w.heap.size; omega)
      rw [e4]
      exact O.block k hk hg⟩
/-- Two drawn regions. -/
def TwoRegs (w : World) (e : Ending) (w' : World) : Prop :=
  ∃ (L M : List Pl.R) (A B : Option Addr) (c d : Nat), e = .returned (.tuple #[.agg #[.slice A (Pl.regionOf L).length c], .agg #[.slice B (Pl.regionOf M).length d]]) ∧ RArg w' A (Pl.regionOf L) ∧ RArg w' B (Pl.regionOf M) ∧ Below w.heap.size w w'
set_option maxHeartbeats 4000000 in
theorem drawRegions (a : Option Addr) (len cap : Nat) (zs : List Int) (w : World) (hr : IsRow .u8 w a len cap zs) (hl : len ≤ 1048576) : Calls Try.prog 40 #[.slice a len cap] w (TwoRegs w) := by
  have HR := Lib.hid (isRow_keep hr (w' := (w.alloc (.cells #[.slice none 0 0] 29)).alloc (.cells #[.slice none 0 0] 29)) fun x hx hcp => by
    have := isRow_lt hr x hx hcp
    rw [Below.heap_alloc _ _ _ (by simp; omega), Below.heap_alloc _ _ _ this])
  clear hr
  go_enter Try.func40, Try.ntmps40
  go_wp2_with fail
  refine (l01New_any a len cap zs _ HR.out hl).mono ?_
  rintro e w1 ⟨g, rfl, hg, C1, hb1, hs1⟩
  have D1 := Lib.hid C1
  simp only [World.size_alloc] at hg
  have g1 : w.heap.size + 1 + 1 ≤ g := by omega
  have VA1 := Lib.hid (((VB.new (w := w) (b := w.heap.size) (t := 29) (cs := [.slice none 0 0]) rfl).alloc (.cells #[.slice none 0 0] 29 (0, 0))).step hb1)
  have VC1 := Lib.hid ((VB.new (w := w.alloc (.cells #[.slice none 0 0] 29 (0, 0))) (b := w.heap.size + 1) (t := 29) (cs := [.slice none 0 0]) (by simp)).step hb1)
  have B1 : Hid (Below w.heap.size w w1) := Lib.hid (later (by go_grown) hb1)
  have l1 := C1.lt
  clear C1 hg hs1 hb1
  go_wp2_with fail
  refine (l03Region_any g a len cap zs _ D1.out).mono ?_
  rintro e w2 ⟨L, A, c, rfl, I2, C2, O2⟩
  have P2 := Lib.hid I2
  have D2 := Lib.hid C2
  have VA2 := Lib.hid (VA1.out.out O2 (by omega))
  have VC2 := Lib.hid (VC1.out.out O2 (by omega))
  have B2 : Hid (Below w.heap.size w w2) := Lib.hid (B1.out.trans (O2.below (by omega) (by have := B1.out.size; omega)))
  have h256 := Pl.regionOf_length L
  have s2 := C2.lt
  have s1 := O2.size
  clear I2 C2 O2
  go_upto_region 3 with fail
  have VT3 := Lib.hid (VB.new (w := w2) (b := w2.heap.size) (t := 29) (cs := [.slice A (Pl.regionOf L).length c]) rfl)
  have VA3 := Lib.hid (VA2.out.alloc (.cells #[.slice A (Pl.regionOf L).length c] 29 (0, 0)))
  have VC3 := Lib.hid (VC2.out.alloc (.cells #[.slice A (Pl.regionOf L).length c] 29 (0, 0)))
  have P3 : Hid _ := Lib.hid (P2.out.alloc (.cells #[.slice A (Pl.regionOf L).length c] 29 (0, 0)))
  have D3 := Lib.hid (D2.out.alloc (.cells #[.slice A (Pl.regionOf L).length c] 29 (0, 0)))
  have B3 := Lib.hid (B2.out.alloc B2.out.size (.cells #[.slice A (Pl.regionOf L).length c] 29 (0, 0)))
  have s3 : w2.heap.size < (w2.alloc (.cells #[.slice A (Pl.regionOf L).length c] 29 (0, 0))).heap.size := by simp
  generalize w2.alloc (.cells #[.slice A (Pl.regionOf L).length c] 29 (0, 0)) = w3 at *
  refine regionL (S := (fun w' => VB w' w2.heap.size [.slice A (Pl.regionOf L).length c])) (L := 4) (by kernel_rfl) ?_ (fun hHeld => ?_)
  · (first | exact VB.out hHeld O4 (by omega) | exact VB.drew VT3.out | exact VB.far hHeld _ _ (by show w2.heap.size ≠ w.heap.size; omega))
  refine takeL (i := 0) (oi := ?_) (v := ?_) ?_ (by kernel_rfl) (by kernel_rfl) (by kernel_rfl) (by kernel_rfl) ?_ (Or.inl ⟨?_, ?_⟩) (by assumption) ?_
  rotate_left 2
  · (simp only [List.getElem?_toArray, List.getElem?_cons_succ, List.getElem?_cons_zero]; rfl)
  · exact fun _ _ _ h => h
  · rfl
  · (intro w hSw; (try dsimp only at hSw); obtain ⟨lS, c0S, _⟩ := VB.open1 hSw; go_simp; (try with_reducible rfl))
  try simp only [Act.put, List.setIfInBounds_toArray, List.set_cons_zero, List.set_cons_succ]
  refine takeL (i := 1) (oi := ?_) (v := ?_) ?_ (by kernel_rfl) (by kernel_rfl) (by kernel_rfl) (by kernel_rfl) ?_ (Or.inl ⟨?_, ?_⟩) (by assumption) ?_
  rotate_left 2
  · (simp only [List.getElem?_toArray, List.getElem?_cons_succ, List.getElem?_cons_zero]; rfl)
  · exact fun _ _ _ h => h
  · rfl
  · (intro w hSw; (try dsimp only at hSw); obtain ⟨lS, c0S, _⟩ := VB.open1 hSw; go_simp; (try with_reducible rfl))
  try simp only [Act.put, List.setIfInBounds_toArray, List.set_cons_zero, List.set_cons_succ]
  refine readyL (rs := [2]) (by kernel_rfl) (by simp) ?_
  refine AllReadyL.cons (o := ?_) ?_ (fun K hK => ?_) AllReadyL.none_
  rotate_left
  · (simp only [List.getElem?_toArray, List.getElem?_cons_succ, List.getElem?_cons_zero]; rfl)
  go_simp
  go_at_call 63
  ((with_reducible refine (l03Region_any g a len cap zs _ (Cursor.drew D3.out)).mono ?_))
  rintro e w4 ⟨L4, A4, k4, rfl, I4, C4, O4⟩
  have P4 := Lib.hid I4
  have I4L : Hid _ := Lib.hid (Recs.out (show Recs w3.drew _ _ _ _ from P3.out) O4 (by right; omega))
  have B4 : Hid (Below w.heap.size w w4) := Lib.hid ((Below.drew B3.out).trans (O4.below (by omega) (by have := B3.out.size; simp; omega)))
  have VA4 := Lib.hid (VB.out (VB.drew VA3.out) O4 (by omega))
  have VC4 := Lib.hid (VB.out (VB.drew VC3.out) O4 (by omega))
  obtain ⟨la4, ca4, fa4⟩ := VA4.out.open1
  obtain ⟨lc4, cc4, fc4⟩ := VC4.out.open1
  clear I4 C4
  refine hK.out _ _ ?_ (fun hHeld => ?_)
  · (first | exact VB.out hHeld O4 (by omega) | exact VB.drew VT3.out | exact VB.far hHeld _ _ (by show w2.heap.size ≠ w.heap.size; omega))
  clear hK K
  try simp only [Act.put, List.setIfInBounds_toArray, List.set_cons_zero, List.set_cons_succ]
  refine readyL (rs := [3]) (by kernel_rfl) (by simp) ?_
  refine AllReadyL.cons (o := ?_) ?_ (fun K hK => ?_) AllReadyL.none_
  rotate_left
  · (simp only [List.getElem?_toArray, List.getElem?_cons_succ, List.getElem?_cons_zero]; rfl)
  go_simp
  refine hK.out _ _ ?_ (fun hHeld => ?_)
  · (first | exact VB.out hHeld O4 (by omega) | exact VB.drew VT3.out | exact VB.far hHeld _ _ (by show w2.heap.size ≠ w.heap.size; omega))
  clear hK K
  try simp only [Act.put, List.setIfInBounds_toArray, List.set_cons_zero, List.set_cons_succ]
  refine readyL (rs := [4]) (by kernel_rfl) (by simp) ?_
  refine AllReadyL.last (o := ?_) ?_ (fun K hK => ?_)
  rotate_left
  · (simp only [List.getElem?_toArray, List.getElem?_cons_succ, List.getElem?_cons_zero]; rfl)
  go_simp
  refine hK.out _ _ ?_
  clear hK K
  try simp only [Act.put, List.setIfInBounds_toArray, List.set_cons_zero, List.set_cons_succ]
  refine doneL (by kernel_rfl) ?_ _
  go_wp2_with fail
  refine bodyPost_ret (v := .tuple #[.agg #[.slice A (Pl.regionOf L).length c], .agg #[.slice A4 (Pl.regionOf L4).length k4]]) (by simp [results, Try.results40, go_sem, ca4, cc4]) rfl ⟨L, L4, A, A4, c, k4, rfl, ?_, ?_, (B4.out.setCell (Nat.le_refl _) _).setCell (by show w.heap.size ≤ w.heap.size + 1; omega) _⟩
  · have h1 := Own.far (p := ⟨w.heap.size, 0, none⟩) I4L.out (by left; show w.heap.size < w1.heap.size; omega) (.slice A (Pl.regionOf L).length c)
    have h2 := Own.far (p := ⟨w.heap.size + 1, 0, none⟩) h1 (by left; show w.heap.size + 1 < w1.heap.size; omega) (.slice A4 (Pl.regionOf L4).length k4)
    exact Recs.arg h2
  · have h1 := Own.far (p := ⟨w.heap.size, 0, none⟩) P4.out (by left; show w.heap.size < w3.drew.heap.size; simp; omega) (.slice A (Pl.regionOf L).length c)
    have h2 := Own.far (p := ⟨w.heap.size + 1, 0, none⟩) h1 (by left; show w.heap.size + 1 < w3.drew.heap.size; simp; omega) (.slice A4 (Pl.regionOf L4).length k4)
    exact Recs.arg h2
end Go.Proofs.Ytlnailpefdlnnaa
