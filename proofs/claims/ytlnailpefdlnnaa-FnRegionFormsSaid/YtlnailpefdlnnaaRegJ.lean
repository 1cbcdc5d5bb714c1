/- Contracts: the program's RegionOk, UnionOf, CommonOf, WithoutOf, InRegion, AreaOf, BoundsOf. -/
import Derived.Test.YtlnailpefdlnnaaRegI
import Derived.Test.YtlnailpefdlnnaaRect4
import Derived.Deep.Cut
namespace Go.Proofs.Ytlnailpefdlnnaa
open Go.RowKit
set_option linter.unusedVariables false
set_option linter.unusedSimpArgs false
attribute [local irreducible] gcells
theorem field_region (w : World) (A : Option Addr) (n c : Nat) : (Instr.field 29 (.agg #[.slice A n c]) 0).run Try.prog w = .ok (.slice A n c) w := by
  have u1 := Try.underlying29
  have u2 := Try.underlying27
  have a3 := Try.isAgg27
  unfold Instr.field asAgg
  go_simp
theorem Pl.regionOf_length (l : List Pl.R) : (Pl.regionOf l).length ≤ 256 := Pl.canon_length _
set_option maxHeartbeats 4000000 in
theorem implRegionOk (A : Option Addr) (n c : Nat) (zs : List Pl.R) (w : World) (HA : RArg w A zs) (hn : zs.length = n) (hb : n ≤ 9223372036854775807) : Calls Try.prog 16 #[.agg #[.slice A n c]] w fun e w' => e = .returned (.bool (Pl.regionOk zs)) ∧ Below w.heap.size w w' := by
  have HN := Lib.hid hn
  have HL := Lib.hid HA
  clear HA hn
  have h256 := Pl.regionOf_length zs
  go_enter Try.func16, Try.ntmps16
  go_wp2_with fail
  have VZ := Lib.hid (VB.new (w := w) (b := w.heap.size) (t := 29) (cs := [.slice A n c]) rfl)
  have BZ : Hid (Below w.heap.size w (w.alloc (.cells #[.slice A n c] 29 (0, 0)))) := Lib.hid (by go_grown)
  generalize w.alloc (.cells #[.slice A n c] 29 (0, 0)) = wv at *
  have HF := fun w A n c => field_region w A n c
  refine regionL (S := (fun w' => VB w' w.heap.size [.slice A n c])) (L := 8) (by kernel_rfl) ?_ (fun hHeld => ?_)
  · (first | exact VB.step hHeld B9 | exact VB.drew VZ.out)
  refine takeL (i := 0) (oi := ?_) (v := ?_) ?_ (by kernel_rfl) (by kernel_rfl) (by kernel_rfl) (by kernel_rfl) ?_ (Or.inl ⟨?_, ?_⟩) (by assumption) ?_
  rotate_left 2
  · (simp only [List.getElem?_toArray, List.getElem?_cons_succ, List.getElem?_cons_zero]; rfl)
  · exact fun _ _ _ h => h
  · rfl
  · (intro w hSw; (try dsimp only at hSw); obtain ⟨lS, c0S, _⟩ := VB.open1 hSw; go_simp; (try with_reducible rfl))
  try simp only [Act.put, List.setIfInBounds_toArray, List.set_cons_zero, List.set_cons_succ]
  refine takeL (i := 1) (oi := ?_) (v := ?_) ?_ (by kernel_rfl) (by kernel_rfl) (by kernel_rfl) (by kernel_rfl) ?_ (Or.inl ⟨?_, ?_⟩) (by assumption) ?_
  rotate_left 2
  · (simp only [List.getElem?_toArray, List.getElem?_cons_succ, List.getElem?_cons_zero]; rfl)
  · exact fun _ _ _ h => h
  · rfl
  · (intro w hSw; (try dsimp only at hSw); obtain ⟨lS, c0S, _⟩ := VB.open1 hSw; go_simp; (try with_reducible rfl))
  try simp only [Act.put, List.setIfInBounds_toArray, List.set_cons_zero, List.set_cons_succ]
  refine takeL (i := 4) (oi := ?_) (v := ?_) ?_ (by kernel_rfl) (by kernel_rfl) (by kernel_rfl) (by kernel_rfl) ?_ (Or.inl ⟨?_, ?_⟩) (by assumption) ?_
  rotate_left 2
  · (simp only [List.getElem?_toArray, List.getElem?_cons_succ, List.getElem?_cons_zero]; rfl)
  · exact fun _ _ _ h => h
  · rfl
  · (intro w hSw; (try dsimp only at hSw); obtain ⟨lS, c0S, _⟩ := VB.open1 hSw; go_simp; (try with_reducible rfl))
  try simp only [Act.put, List.setIfInBounds_toArray, List.set_cons_zero, List.set_cons_succ]
  refine takeL (i := 5) (oi := ?_) (v := ?_) ?_ (by kernel_rfl) (by kernel_rfl) (by kernel_rfl) (by kernel_rfl) ?_ (Or.inl ⟨?_, ?_⟩) (by assumption) ?_
  rotate_left 2
  · (simp only [List.getElem?_toArray, List.getElem?_cons_succ, List.getElem?_cons_zero]; rfl)
  · exact fun _ _ _ h => h
  · rfl
  · (intro w hSw; (try dsimp only at hSw); obtain ⟨lS, c0S, _⟩ := VB.open1 hSw; go_simp; (try with_reducible rfl))
  try simp only [Act.put, List.setIfInBounds_toArray, List.set_cons_zero, List.set_cons_succ]
  refine readyL (rs := [2]) (by kernel_rfl) (by simp) ?_
  refine AllReadyL.cons (o := ?_) ?_ (fun K hK => ?_) AllReadyL.none_
  rotate_left
  · (simp only [List.getElem?_toArray, List.getElem?_cons_succ, List.getElem?_cons_zero]; rfl)
  go_simp
  go_at_call 21
  ((with_reducible refine (implRegionOf A n c zs _ (HL.out.below (Below.drew BZ.out)) HN.out hb).mono ?_))
  rintro e w9 ⟨A9, c9, rfl, O9, B9⟩
  have I9 := Lib.hid O9
  have BB9 := Lib.hid (later (Below.drew BZ.out) B9)
  clear O9
  refine hK.out _ _ ?_ (fun hHeld => ?_)
  · (first | exact VB.step hHeld B9 | exact VB.drew VZ.out)
  clear hK K
  try simp only [Act.put, List.setIfInBounds_toArray, List.set_cons_zero, List.set_cons_succ]
  refine takeL (i := 3) (oi := ?_) (v := ?_) ?_ (by kernel_rfl) (by kernel_rfl) (by kernel_rfl) (by kernel_rfl) ?_ (Or.inl ⟨?_, ?_⟩) (by assumption) ?_
  rotate_left 2
  · (simp only [List.getElem?_toArray, List.getElem?_cons_succ, List.getElem?_cons_zero]; rfl)
  · exact fun _ _ _ h => h
  · rfl
  · (intro w hSw; (try dsimp only at hSw); obtain ⟨lS, c0S, _⟩ := VB.open1 hSw; go_simp; (try with_reducible rfl))
  try simp only [Act.put, List.setIfInBounds_toArray, List.set_cons_zero, List.set_cons_succ]
  refine readyL (rs := [6]) (by kernel_rfl) (by simp) ?_
  refine AllReadyL.cons (o := ?_) ?_ (fun K hK => ?_) AllReadyL.none_
  rotate_left
  · (simp only [List.getElem?_toArray, List.getElem?_cons_succ, List.getElem?_cons_zero]; rfl)
  go_simp
  go_at_call 45
  ((with_reducible refine (equal_any A9 A (Pl.regionOf zs).length n c9 c (Pl.regionOf zs) zs _ (Recs.arg I9.out) (HL.out.below BB9.out) rfl HN.out (by omega) hb).mono ?_))
  rintro e w8 ⟨rfl, B9'⟩
  have B9 := B9'
  have B8 := later BB9.out B9'
  refine hK.out _ _ ?_ (fun hHeld => ?_)
  · (first | exact VB.step hHeld B9 | exact VB.drew VZ.out)
  clear hK K
  try simp only [Act.put, List.setIfInBounds_toArray, List.set_cons_zero, List.set_cons_succ]
  refine takeL (i := 7) (oi := ?_) (v := ?_) ?_ (by kernel_rfl) (by kernel_rfl) (by kernel_rfl) (by kernel_rfl) ?_ (Or.inl ⟨?_, ?_⟩) (by assumption) ?_
  rotate_left 2
  · (simp only [List.getElem?_toArray, List.getElem?_cons_succ, List.getElem?_cons_zero]; rfl)
  · exact fun _ _ _ h => h
  · rfl
  · (intro w hSw; (try dsimp only at hSw); obtain ⟨lS, c0S, _⟩ := VB.open1 hSw; go_simp; (try with_reducible rfl))
  try simp only [Act.put, List.setIfInBounds_toArray, List.set_cons_zero, List.set_cons_succ]
  refine doneL (by kernel_rfl) ?_ _
  go_wp2_with fail
  go_ret
  exact ⟨rfl, B8⟩
/-- impl.UnionOf. -/
def Pl.unionOf (a b : List Pl.R) : List Pl.R := if Pl.regionOk a && Pl.regionOk b then Pl.canon (fun y x => Pl.gridL a y x ||Pl.gridL b y x) else []
set_option maxHeartbeats 4000000 in
theorem implUnionOf (A B : Option Addr) (n m c d : Nat) (za zb : List Pl.R) (w : World) (HA : RArg w A za) (HB : RArg w B zb) (hn : za.length = n) (hm : zb.length = m) (hb : n ≤ 9223372036854775807) (hb2 : m ≤ 9223372036854775807) : Calls Try.prog 34 #[.agg #[.slice A n c], .agg #[.slice B m d]] w (NewReg (Pl.unionOf za zb) w) := by
  have HN := Lib.hid hn
  have HM := Lib.hid hm
  have HL := Lib.hid HA
  have HK := Lib.hid HB
  clear HA HB hn hm
  have m1 := Lib.hid (Pl.gnum_holds za).lt
  have m2 := Lib.hid (Pl.gnum_holds zb).lt
  have HH : Hid (Pl.Holds (fun y => Pl.gnum za y ||| Pl.gnum zb y) (fun y x => Pl.gridL za y x ||Pl.gridL zb y x)) := Lib.hid ((Pl.gnum_holds za).or (Pl.gnum_holds zb))
  go_enter Try.func34, Try.ntmps34
  go_upto_region 1 with fail
  have V1 := Lib.hid (((VB.new (w := w) (b := w.heap.size) (t := 29) (cs := [.slice A n c]) rfl).alloc (.cells #[.slice B m d] 29 (0, 0))).alloc (.cells #[.slice none 0 0] 29 (0, 0)))
  have V2 := Lib.hid ((VB.new (w := w.alloc (.cells #[.slice A n c] 29 (0, 0))) (b := w.heap.size + 1) (t := 29) (cs := [.slice B m d]) (by simp)).alloc (.cells #[.slice none 0 0] 29 (0, 0)))
  have VR := Lib.hid (VB.new (w := (w.alloc (.cells #[.slice A n c] 29 (0, 0))).alloc (.cells #[.slice B m d] 29 (0, 0))) (b := w.heap.size + 1 + 1) (t := 29) (cs := [.slice none 0 0]) (by simp))
  have BZ : Hid (Below w.heap.size w (((w.alloc (.cells #[.slice A n c] 29 (0, 0))).alloc (.cells #[.slice B m d] 29 (0, 0))).alloc (.cells #[.slice none 0 0] 29 (0, 0)))) := Lib.hid (by go_grown)
  generalize ((w.alloc (.cells #[.slice A n c] 29 (0, 0))).alloc (.cells #[.slice B m d] 29 (0, 0))).alloc (.cells #[.slice none 0 0] 29 (0, 0)) = wv at *
  obtain ⟨l1, c1, f1⟩ := V1.out.open1
  obtain ⟨l2, c2, f2⟩ := V2.out.open1
  obtain ⟨l3, c3, f3⟩ := VR.out.open1
  cases hra : Pl.regionOk za
  · go_wp2_with (go_at_call 16; ((with_reducible refine (implRegionOk A n c za _ (HL.out.below BZ.out) HN.out hb).mono ?_)); rw [hra]; rintro e w9 ⟨rfl, B9⟩; have VR9 := Lib.hid (VR.out.step B9); have BB9 := Lib.hid (later BZ.out B9); obtain ⟨l9, c9, f9⟩ := VR9.out.open1)
    have e : Pl.unionOf za zb = [] := by simp [Pl.unionOf, hra]
    rw [e]
    exact bodyPost_ret (v := .agg #[.slice none 0 0]) (by simp [results, Try.results34, go_sem, c9]) rfl ⟨none, 0, rfl, Recs.nil _ _ _ (Nat.le_refl _), BB9.out.setCell (by show w.heap.size ≤ w.heap.size + 1 + 1; omega) _⟩
  · cases hrb : Pl.regionOk zb
    · go_wp2_with (first
        | (go_at_call 16; ((with_reducible refine (implRegionOk A n c za _ (HL.out.below BZ.out) HN.out hb).mono ?_)); rw [hra]; rintro e w9 ⟨rfl, B9⟩; have V29 := Lib.hid (V2.out.step B9); have VR9 := Lib.hid (VR.out.step B9); have BB9 := Lib.hid (later BZ.out B9); obtain ⟨l9, c9, f9⟩ := V29.out.open1)
        | (go_at_call 16; ((with_reducible refine (implRegionOk B m d zb _ (HK.out.below BB9.out) HM.out hb2).mono ?_)); rw [hrb]; rintro e w8 ⟨rfl, B8⟩; have VR8 := Lib.hid (VR9.out.step B8); have BB8 := Lib.hid (later BB9.out B8); obtain ⟨l8, c8, f8⟩ := VR8.out.open1))
      have e : Pl.unionOf za zb = [] := by simp [Pl.unionOf, hrb]
      rw [e]
      exact bodyPost_ret (v := .agg #[.slice none 0 0]) (by simp [results, Try.results34, go_sem, c8]) rfl ⟨none, 0, rfl, Recs.nil _ _ _ (Nat.le_refl _), BB8.out.setCell (by show w.heap.size ≤ w.heap.size + 1 + 1; omega) _⟩
    · go_wp2_with (first
        | (go_at_call 16; ((with_reducible refine (implRegionOk A n c za _ (HL.out.below BZ.out) HN.out hb).mono ?_)); rw [hra]; rintro e w9 ⟨rfl, B9⟩; have V19 := Lib.hid (V1.out.step B9); have V29 := Lib.hid (V2.out.step B9); have VR9 := Lib.hid (VR.out.step B9); have BB9 := Lib.hid (later BZ.out B9); obtain ⟨l9, c9, f9⟩ := V29.out.open1)
        | (go_at_call 16; ((with_reducible refine (implRegionOk B m d zb _ (HK.out.below BB9.out) HM.out hb2).mono ?_)); rw [hrb]; rintro e w8 ⟨rfl, B8⟩; have W1 := Lib.hid (V19.out.step B8); have W2 := Lib.hid (V29.out.step B8); have VR8 := Lib.hid (VR9.out.step B8); have BB8 := Lib.hid (later BB9.out B8); clear B8))
      refine regionL (S := (fun w' => VB w' w.heap.size [.slice A n c] ∧ VB w' (w.heap.size + 1) [.slice B m d])) (L := 6) (by kernel_rfl) ?_ (fun hHeld => ?_)
      · (first | exact ⟨hHeld.1.step B9, hHeld.2.step B9⟩ | exact ⟨VB.drew W1.out, VB.drew W2.out⟩)
      refine takeL (i := 0) (oi := ?_) (v := ?_) ?_ (by kernel_rfl) (by kernel_rfl) (by kernel_rfl) (by kernel_rfl) ?_ (Or.inl ⟨?_, ?_⟩) (by assumption) ?_
      rotate_left 2
      · (simp only [List.getElem?_toArray, List.getElem?_cons_succ, List.getElem?_cons_zero]; rfl)
      · exact fun _ _ _ h => h
      · rfl
      · (intro w hSw; (try dsimp only at hSw); obtain ⟨h1S, h2S⟩ := hSw; obtain ⟨lS, c0S, _⟩ := h1S.open1; obtain ⟨lT, c0T, _⟩ := h2S.open1; clear h1S h2S; go_simp; (try with_reducible rfl))
      try simp only [Act.put, List.setIfInBounds_toArray, List.set_cons_zero, List.set_cons_succ]
      refine takeL (i := 2) (oi := ?_) (v := ?_) ?_ (by kernel_rfl) (by kernel_rfl) (by kernel_rfl) (by kernel_rfl) ?_ (Or.inl ⟨?_, ?_⟩) (by assumption) ?_
      rotate_left 2
      · (simp only [List.getElem?_toArray, List.getElem?_cons_succ, List.getElem?_cons_zero]; rfl)
      · exact fun _ _ _ h => h
      · rfl
      · (intro w hSw; (try dsimp only at hSw); obtain ⟨h1S, h2S⟩ := hSw; obtain ⟨lS, c0S, _⟩ := h1S.open1; obtain ⟨lT, c0T, _⟩ := h2S.open1; clear h1S h2S; go_simp; (try with_reducible rfl))
      try simp only [Act.put, List.setIfInBounds_toArray, List.set_cons_zero, List.set_cons_succ]
      refine readyL (rs := [1]) (by kernel_rfl) (by simp) ?_
      refine AllReadyL.cons (o := ?_) ?_ (fun K hK => ?_) AllReadyL.none_
      rotate_left
      · (simp only [List.getElem?_toArray, List.getElem?_cons_succ, List.getElem?_cons_zero]; rfl)
      go_simp
      go_at_call 56
      ((with_reducible refine (gridOfRegion_any A n c za _ (HL.out.below (Below.drew BB8.out)) HN.out hb).mono ?_))
      rintro e w7 ⟨rfl, B9⟩
      have VR7 := Lib.hid (VB.step (VB.drew VR8.out) B9)
      have BB7 := Lib.hid (later (Below.drew BB8.out) B9)
      refine hK.out _ _ ?_ (fun hHeld => ?_)
      · (first | exact ⟨hHeld.1.step B9, hHeld.2.step B9⟩ | exact ⟨VB.drew W1.out, VB.drew W2.out⟩)
      clear hK K
      try simp only [Act.put, List.setIfInBounds_toArray, List.set_cons_zero, List.set_cons_succ]
      refine readyL (rs := [3]) (by kernel_rfl) (by simp) ?_
      refine AllReadyL.cons (o := ?_) ?_ (fun K hK => ?_) AllReadyL.none_
      rotate_left
      · (simp only [List.getElem?_toArray, List.getElem?_cons_succ, List.getElem?_cons_zero]; rfl)
      go_simp
      go_at_call 56
      ((with_reducible refine (gridOfRegion_any B m d zb _ (HK.out.below BB7.out) HM.out hb2).mono ?_))
      rintro e w6 ⟨rfl, B9⟩
      have VR6 := Lib.hid (VB.step VR7.out B9)
      have BB6 := Lib.hid (later BB7.out B9)
      refine hK.out _ _ ?_ (fun hHeld => ?_)
      · (first | exact ⟨hHeld.1.step B9, hHeld.2.step B9⟩ | exact ⟨VB.drew W1.out, VB.drew W2.out⟩)
      clear hK K
      try simp only [Act.put, List.setIfInBounds_toArray, List.set_cons_zero, List.set_cons_succ]
      refine readyL (rs := [4]) (by kernel_rfl) (by simp) ?_
      refine AllReadyL.cons (o := ?_) ?_ (fun K hK => ?_) AllReadyL.none_
      rotate_left
      · (simp only [List.getElem?_toArray, List.getElem?_cons_succ, List.getElem?_cons_zero]; rfl)
      go_simp
      go_at_call 50
      ((with_reducible refine (gridOr (Pl.gnum za) (Pl.gnum zb) m1.out m2.out _).mono ?_))
      rintro e w5 ⟨rfl, B9⟩
      have VR5 := Lib.hid (VB.step VR6.out B9)
      have BB5 := Lib.hid (later BB6.out B9)
      refine hK.out _ _ ?_ (fun hHeld => ?_)
      · (first | exact ⟨hHeld.1.step B9, hHeld.2.step B9⟩ | exact ⟨VB.drew W1.out, VB.drew W2.out⟩)
      clear hK K
      try simp only [Act.put, List.setIfInBounds_toArray, List.set_cons_zero, List.set_cons_succ]
      refine readyL (rs := [5]) (by kernel_rfl) (by simp) ?_
      refine AllReadyL.cons (o := ?_) ?_ (fun K hK => ?_) AllReadyL.none_
      rotate_left
      · (simp only [List.getElem?_toArray, List.getElem?_cons_succ, List.getElem?_cons_zero]; rfl)
      go_simp
      go_at_call 52
      ((with_reducible refine (region_any (fun y => Pl.gnum za y ||| Pl.gnum zb y) (fun y x => Pl.gridL za y x ||Pl.gridL zb y x) HH.out _).mono ?_))
      rintro e w4 ⟨A4, k4, rfl, O4, B9⟩
      have I4 := Lib.hid O4
      have VR4 := Lib.hid (VB.step VR5.out B9)
      have BB4 := Lib.hid (later BB5.out B9)
      obtain ⟨l4, c4, f4⟩ := VR4.out.open1
      clear O4
      refine hK.out _ _ ?_ (fun hHeld => ?_)
      · (first | exact ⟨hHeld.1.step B9, hHeld.2.step B9⟩ | exact ⟨VB.drew W1.out, VB.drew W2.out⟩)
      clear hK K
      try simp only [Act.put, List.setIfInBounds_toArray, List.set_cons_zero, List.set_cons_succ]
      refine readyL (rs := [6]) (by kernel_rfl) (by simp) ?_
      refine AllReadyL.last (o := ?_) ?_ (fun K hK => ?_)
      rotate_left
      · (simp only [List.getElem?_toArray, List.getElem?_cons_succ, List.getElem?_cons_zero]; rfl)
      go_simp
      refine hK.out _ _ ?_
      clear hK K
      try simp only [Act.put, List.setIfInBounds_toArray, List.set_cons_zero, List.set_cons_succ]
      refine doneL (by kernel_rfl) ?_ _
      go_wp2_with fail
      have e : Pl.unionOf za zb = Pl.canon (fun y x => Pl.gridL za y x ||Pl.gridL zb y x) := by simp [Pl.unionOf, hra, hrb]
      rw [e]
      refine bodyPost_ret (v := .agg #[.slice A4 (Pl.canon (fun y x => Pl.gridL za y x ||Pl.gridL zb y x)).length k4]) (by simp [results, Try.results34, go_sem, c4]) rfl ⟨A4, k4, rfl, ?_, BB4.out.setCell (by show w.heap.size ≤ w.heap.size + 1 + 1; omega) _⟩
      have h1 := Own.far (p := ⟨w.heap.size + 1 + 1, 0, none⟩) I4.out (by left; show w.heap.size + 1 + 1 < w5.heap.size; exact VR5.out.lt) (.slice A4 (Pl.canon (fun y x => Pl.gridL za y x ||Pl.gridL zb y x)).length k4)
      exact Own.mono h1 BB5.out.size (by simp [World.setCell]) (Nat.le_refl _)
/-- impl.CommonOf. -/
def Pl.commonOf (a b : List Pl.R) : List Pl.R := if Pl.regionOk a && Pl.regionOk b then Pl.canon (fun y x => Pl.gridL a y x &&Pl.gridL b y x) else []
set_option maxHeartbeats 4000000 in
theorem implCommonOf (A B : Option Addr) (n m c d : Nat) (za zb : List Pl.R) (w : World) (HA : RArg w A za) (HB : RArg w B zb) (hn : za.length = n) (hm : zb.length = m) (hb : n ≤ 9223372036854775807) (hb2 : m ≤ 9223372036854775807) : Calls Try.prog 36 #[.agg #[.slice A n c], .agg #[.slice B m d]] w (NewReg (Pl.commonOf za zb) w) := by
  have HN := Lib.hid hn
  have HM := Lib.hid hm
  have HL := Lib.hid HA
  have HK := Lib.hid HB
  clear HA HB hn hm
  have m1 := Lib.hid (Pl.gnum_holds za).lt
  have m2 := Lib.hid (Pl.gnum_holds zb).lt
  have HH : Hid (Pl.Holds (fun y => Pl.gnum za y &&& Pl.gnum zb y) (fun y x => Pl.gridL za y x &&Pl.gridL zb y x)) := Lib.hid ((Pl.gnum_holds za).and (Pl.gnum_holds zb))
  go_enter Try.func36, Try.ntmps36
  go_upto_region 1 with fail
  have V1 := Lib.hid (((VB.new (w := w) (b := w.heap.size) (t := 29) (cs := [.slice A n c]) rfl).alloc (.cells #[.slice B m d] 29 (0, 0))).alloc (.cells #[.slice none 0 0] 29 (0, 0)))
  have V2 := Lib.hid ((VB.new (w := w.alloc (.cells #[.slice A n c] 29 (0, 0))) (b := w.heap.size + 1) (t := 29) (cs := [.slice B m d]) (by simp)).alloc (.cells #[.slice none 0 0] 29 (0, 0)))
  have VR := Lib.hid (VB.new (w := (w.alloc (.cells #[.slice A n c] 29 (0, 0))).alloc (.cells #[.slice B m d] 29 (0, 0))) (b := w.heap.size + 1 + 1) (t := 29) (cs := [.slice none 0 0]) (by simp))
  have BZ : Hid (Below w.heap.size w (((w.alloc (.cells #[.slice A n c] 29 (0, 0))).alloc (.cells #[.slice B m d] 29 (0, 0))).alloc (.cells #[.slice none 0 0] 29 (0, 0)))) := Lib.hid (by go_grown)
  generalize ((w.alloc (.cells #[.slice A n c] 29 (0, 0))).alloc (.cells #[.slice B m d] 29 (0, 0))).alloc (.cells #[.slice none 0 0] 29 (0, 0)) = wv at *
  obtain ⟨l1, c1, f1⟩ := V1.out.open1
  obtain ⟨l2, c2, f2⟩ := V2.out.open1
  obtain ⟨l3, c3, f3⟩ := VR.out.open1
  cases hra : Pl.regionOk za
  · go_wp2_with (go_at_call 16; ((with_reducible refine (implRegionOk A n c za _ (HL.out.below BZ.out) HN.out hb).mono ?_)); rw [hra]; rintro e w9 ⟨rfl, B9⟩; have VR9 := Lib.hid (VR.out.step B9); have BB9 := Lib.hid (later BZ.out B9); obtain ⟨l9, c9, f9⟩ := VR9.out.open1)
    have e : Pl.commonOf za zb = [] := by simp [Pl.commonOf, hra]
    rw [e]
    exact bodyPost_ret (v := .agg #[.slice none 0 0]) (by simp [results, Try.results36, go_sem, c9]) rfl ⟨none, 0, rfl, Recs.nil _ _ _ (Nat.le_refl _), BB9.out.setCell (by show w.heap.size ≤ w.heap.size + 1 + 1; omega) _⟩
  · cases hrb : Pl.regionOk zb
    · go_wp2_with (first
        | (go_at_call 16; ((with_reducible refine (implRegionOk A n c za _ (HL.out.below BZ.out) HN.out hb).mono ?_)); rw [hra]; rintro e w9 ⟨rfl, B9⟩; have V29 := Lib.hid (V2.out.step B9); have VR9 := Lib.hid (VR.out.step B9); have BB9 := Lib.hid (later BZ.out B9); obtain ⟨l9, c9, f9⟩ := V29.out.open1)
        | (go_at_call 16; ((with_reducible refine (implRegionOk B m d zb _ (HK.out.below BB9.out) HM.out hb2).mono ?_)); rw [hrb]; rintro e w8 ⟨rfl, B8⟩; have VR8 := Lib.hid (VR9.out.step B8); have BB8 := Lib.hid (later BB9.out B8); obtain ⟨l8, c8, f8⟩ := VR8.out.open1))
      have e : Pl.commonOf za zb = [] := by simp [Pl.commonOf, hrb]
      rw [e]
      exact bodyPost_ret (v := .agg #[.slice none 0 0]) (by simp [results, Try.results36, go_sem, c8]) rfl ⟨none, 0, rfl, Recs.nil _ _ _ (Nat.le_refl _), BB8.out.setCell (by show w.heap.size ≤ w.heap.size + 1 + 1; omega) _⟩
    · go_wp2_with (first
        | (go_at_call 16; ((with_reducible refine (implRegionOk A n c za _ (HL.out.below BZ.out) HN.out hb).mono ?_)); rw [hra]; rintro e w9 ⟨rfl, B9⟩; have V19 := Lib.hid (V1.out.step B9); have V29 := Lib.hid (V2.out.step B9); have VR9 := Lib.hid (VR.out.step B9); have BB9 := Lib.hid (later BZ.out B9); obtain ⟨l9, c9, f9⟩ := V29.out.open1)
        | (go_at_call 16; ((with_reducible refine (implRegionOk B m d zb _ (HK.out.below BB9.out) HM.out hb2).mono ?_)); rw [hrb]; rintro e w8 ⟨rfl, B8⟩; have W1 := Lib.hid (V19.out.step B8); have W2 := Lib.hid (V29.out.step B8); have VR8 := Lib.hid (VR9.out.step B8); have BB8 := Lib.hid (later BB9.out B8); clear B8))
      refine regionL (S := (fun w' => VB w' w.heap.size [.slice A n c] ∧ VB w' (w.heap.size + 1) [.slice B m d])) (L := 6) (by kernel_rfl) ?_ (fun hHeld => ?_)
      · (first | exact ⟨hHeld.1.step B9, hHeld.2.step B9⟩ | exact ⟨VB.drew W1.out, VB.drew W2.out⟩)
      refine takeL (i := 0) (oi := ?_) (v := ?_) ?_ (by kernel_rfl) (by kernel_rfl) (by kernel_rfl) (by kernel_rfl) ?_ (Or.inl ⟨?_, ?_⟩) (by assumption) ?_
      rotate_left 2
      · (simp only [List.getElem?_toArray, List.getElem?_cons_succ, List.getElem?_cons_zero]; rfl)
      · exact fun _ _ _ h => h
      · rfl
      · (intro w hSw; (try dsimp only at hSw); obtain ⟨h1S, h2S⟩ := hSw; obtain ⟨lS, c0S, _⟩ := h1S.open1; obtain ⟨lT, c0T, _⟩ := h2S.open1; clear h1S h2S; go_simp; (try with_reducible rfl))
      try simp only [Act.put, List.setIfInBounds_toArray, List.set_cons_zero, List.set_cons_succ]
      refine takeL (i := 2) (oi := ?_) (v := ?_) ?_ (by kernel_rfl) (by kernel_rfl) (by kernel_rfl) (by kernel_rfl) ?_ (Or.inl ⟨?_, ?_⟩) (by assumption) ?_
      rotate_left 2
      · (simp only [List.getElem?_toArray, List.getElem?_cons_succ, List.getElem?_cons_zero]; rfl)
      · exact fun _ _ _ h => h
      · rfl
      · (intro w hSw; (try dsimp only at hSw); obtain ⟨h1S, h2S⟩ := hSw; obtain ⟨lS, c0S, _⟩ := h1S.open1; obtain ⟨lT, c0T, _⟩ := h2S.open1; clear h1S h2S; go_simp; (try with_reducible rfl))
      try simp only [Act.put, List.setIfInBounds_toArray, List.set_cons_zero, List.set_cons_succ]
      refine readyL (rs := [1]) (by kernel_rfl) (by simp) ?_
      refine AllReadyL.cons (o := ?_) ?_ (fun K hK => ?_) AllReadyL.none_
      rotate_left
      · (simp only [List.getElem?_toArray, List.getElem?_cons_succ, List.getElem?_cons_zero]; rfl)
      go_simp
      go_at_call 56
      ((with_reducible refine (gridOfRegion_any A n c za _ (HL.out.below (Below.drew BB8.out)) HN.out hb).mono ?_))
      rintro e w7 ⟨rfl, B9⟩
      have VR7 := Lib.hid (VB.step (VB.drew VR8.out) B9)
      have BB7 := Lib.hid (later (Below.drew BB8.out) B9)
      refine hK.out _ _ ?_ (fun hHeld => ?_)
      · (first | exact ⟨hHeld.1.step B9, hHeld.2.step B9⟩ | exact ⟨VB.drew W1.out, VB.drew W2.out⟩)
      clear hK K
      try simp only [Act.put, List.setIfInBounds_toArray, List.set_cons_zero, List.set_cons_succ]
      refine readyL (rs := [3]) (by kernel_rfl) (by simp) ?_
      refine AllReadyL.cons (o := ?_) ?_ (fun K hK => ?_) AllReadyL.none_
      rotate_left
      · (simp only [List.getElem?_toArray, List.getElem?_cons_succ, List.getElem?_cons_zero]; rfl)
      go_simp
      go_at_call 56
      ((with_reducible refine (gridOfRegion_any B m d zb _ (HK.out.below BB7.out) HM.out hb2).mono ?_))
      rintro e w6 ⟨rfl, B9⟩
      have VR6 := Lib.hid (VB.step VR7.out B9)
      have BB6 := Lib.hid (later BB7.out B9)
      refine hK.out _ _ ?_ (fun hHeld => ?_)
      · (first | exact ⟨hHeld.1.step B9, hHeld.2.step B9⟩ | exact ⟨VB.drew W1.out, VB.drew W2.out⟩)
      clear hK K
      try simp only [Act.put, List.setIfInBounds_toArray, List.set_cons_zero, List.set_cons_succ]
      refine readyL (rs := [4]) (by kernel_rfl) (by simp) ?_
      refine AllReadyL.cons (o := ?_) ?_ (fun K hK => ?_) AllReadyL.none_
      rotate_left
      · (simp only [List.getElem?_toArray, List.getElem?_cons_succ, List.getElem?_cons_zero]; rfl)
      go_simp
      go_at_call 60
      ((with_reducible refine (gridAnd (Pl.gnum za) (Pl.gnum zb) m1.out m2.out _).mono ?_))
      rintro e w5 ⟨rfl, B9⟩
      have VR5 := Lib.hid (VB.step VR6.out B9)
      have BB5 := Lib.hid (later BB6.out B9)
      refine hK.out _ _ ?_ (fun hHeld => ?_)
      · (first | exact ⟨hHeld.1.step B9, hHeld.2.step B9⟩ | exact ⟨VB.drew W1.out, VB.drew W2.out⟩)
      clear hK K
      try simp only [Act.put, List.setIfInBounds_toArray, List.set_cons_zero, List.set_cons_succ]
      refine readyL (rs := [5]) (by kernel_rfl) (by simp) ?_
      refine AllReadyL.cons (o := ?_) ?_ (fun K hK => ?_) AllReadyL.none_
      rotate_left
      · (simp only [List.getElem?_toArray, List.getElem?_cons_succ, List.getElem?_cons_zero]; rfl)
      go_simp
      go_at_call 52
      ((with_reducible refine (region_any (fun y => Pl.gnum za y &&& Pl.gnum zb y) (fun y x => Pl.gridL za y x &&Pl.gridL zb y x) HH.out _).mono ?_))
      rintro e w4 ⟨A4, k4, rfl, O4, B9⟩
      have I4 := Lib.hid O4
      have VR4 := Lib.hid (VB.step VR5.out B9)
      have BB4 := Lib.hid (later BB5.out B9)
      obtain ⟨l4, c4, f4⟩ := VR4.out.open1
      clear O4
      refine hK.out _ _ ?_ (fun hHeld => ?_)
      · (first | exact ⟨hHeld.1.step B9, hHeld.2.step B9⟩ | exact ⟨VB.drew W1.out, VB.drew W2.out⟩)
      clear hK K
      try simp only [Act.put, List.setIfInBounds_toArray, List.set_cons_zero, List.set_cons_succ]
      refine readyL (rs := [6]) (by kernel_rfl) (by simp) ?_
      refine AllReadyL.last (o := ?_) ?_ (fun K hK => ?_)
      rotate_left
      · (simp only [List.getElem?_toArray, List.getElem?_cons_succ, List.getElem?_cons_zero]; rfl)
      go_simp
      refine hK.out _ _ ?_
      clear hK K
      try simp only [Act.put, List.setIfInBounds_toArray, List.set_cons_zero, List.set_cons_succ]
      refine doneL (by kernel_rfl) ?_ _
      go_wp2_with fail
      have e : Pl.commonOf za zb = Pl.canon (fun y x => Pl.gridL za y x &&Pl.gridL zb y x) := by simp [Pl.commonOf, hra, hrb]
      rw [e]
      refine bodyPost_ret (v := .agg #[.slice A4 (Pl.canon (fun y x => Pl.gridL za y x &&Pl.gridL zb y x)).length k4]) (by simp [results, Try.results36, go_sem, c4]) rfl ⟨A4, k4, rfl, ?_, BB4.out.setCell (by show w.heap.size ≤ w.heap.size + 1 + 1; omega) _⟩
      have h1 := Own.far (p := ⟨w.heap.size + 1 + 1, 0, none⟩) I4.out (by left; show w.heap.size + 1 + 1 < w5.heap.size; exact VR5.out.lt) (.slice A4 (Pl.canon (fun y x => Pl.gridL za y x &&Pl.gridL zb y x)).length k4)
      exact Own.mono h1 BB5.out.size (by simp [World.setCell]) (Nat.le_refl _)
/-- impl.WithoutOf. -/
def Pl.withoutOf (a b : List Pl.R) : List Pl.R := if Pl.regionOk a && Pl.regionOk b then Pl.canon (fun y x => Pl.gridL a y x && !Pl.gridL b y x) else []
set_option maxHeartbeats 4000000 in
theorem implWithoutOf (A B : Option Addr) (n m c d : Nat) (za zb : List Pl.R) (w : World) (HA : RArg w A za) (HB : RArg w B zb) (hn : za.length = n) (hm : zb.length = m) (hb : n ≤ 9223372036854775807) (hb2 : m ≤ 9223372036854775807) : Calls Try.prog 38 #[.agg #[.slice A n c], .agg #[.slice B m d]] w (NewReg (Pl.withoutOf za zb) w) := by
  have HN := Lib.hid hn
  have HM := Lib.hid hm
  have HL := Lib.hid HA
  have HK := Lib.hid HB
  clear HA HB hn hm
  have m1 := Lib.hid (Pl.gnum_holds za).lt
  have m2 := Lib.hid (Pl.gnum_holds zb).lt
  have HH : Hid (Pl.Holds (fun y => Pl.gnum za y &&& (18446744073709551615 - Pl.gnum zb y)) (fun y x => Pl.gridL za y x && !Pl.gridL zb y x)) := Lib.hid ((Pl.gnum_holds za).without (Pl.gnum_holds zb))
  go_enter Try.func38, Try.ntmps38
  go_upto_region 1 with fail
  have V1 := Lib.hid (((VB.new (w := w) (b := w.heap.size) (t := 29) (cs := [.slice A n c]) rfl).alloc (.cells #[.slice B m d] 29 (0, 0))).alloc (.cells #[.slice none 0 0] 29 (0, 0)))
  have V2 := Lib.hid ((VB.new (w := w.alloc (.cells #[.slice A n c] 29 (0, 0))) (b := w.heap.size + 1) (t := 29) (cs := [.slice B m d]) (by simp)).alloc (.cells #[.slice none 0 0] 29 (0, 0)))
  have VR := Lib.hid (VB.new (w := (w.alloc (.cells #[.slice A n c] 29 (0, 0))).alloc (.cells #[.slice B m d] 29 (0, 0))) (b := w.heap.size + 1 + 1) (t := 29) (cs := [.slice none 0 0]) (by simp))
  have BZ : Hid (Below w.heap.size w (((w.alloc (.cells #[.slice A n c] 29 (0, 0))).alloc (.cells #[.slice B m d] 29 (0, 0))).alloc (.cells #[.slice none 0 0] 29 (0, 0)))) := Lib.hid (by go_grown)
  generalize ((w.alloc (.cells #[.slice A n c] 29 (0, 0))).alloc (.cells #[.slice B m d] 29 (0, 0))).alloc (.cells #[.slice none 0 0] 29 (0, 0)) = wv at *
  obtain ⟨l1, c1, f1⟩ := V1.out.open1
  obtain ⟨l2, c2, f2⟩ := V2.out.open1
  obtain ⟨l3, c3, f3⟩ := VR.out.open1
  cases hra : Pl.regionOk za
  · go_wp2_with (go_at_call 16; ((with_reducible refine (implRegionOk A n c za _ (HL.out.below BZ.out) HN.out hb).mono ?_)); rw [hra]; rintro e w9 ⟨rfl, B9⟩; have VR9 := Lib.hid (VR.out.step B9); have BB9 := Lib.hid (later BZ.out B9); obtain ⟨l9, c9, f9⟩ := VR9.out.open1)
    have e : Pl.withoutOf za zb = [] := by simp [Pl.withoutOf, hra]
    rw [e]
    exact bodyPost_ret (v := .agg #[.slice none 0 0]) (by simp [results, Try.results38, go_sem, c9]) rfl ⟨none, 0, rfl, Recs.nil _ _ _ (Nat.le_refl _), BB9.out.setCell (by show w.heap.size ≤ w.heap.size + 1 + 1; omega) _⟩
  · cases hrb : Pl.regionOk zb
    · go_wp2_with (first
        | (go_at_call 16; ((with_reducible refine (implRegionOk A n c za _ (HL.out.below BZ.out) HN.out hb).mono ?_)); rw [hra]; rintro e w9 ⟨rfl, B9⟩; have V29 := Lib.hid (V2.out.step B9); have VR9 := Lib.hid (VR.out.step B9); have BB9 := Lib.hid (later BZ.out B9); obtain ⟨l9, c9, f9⟩ := V29.out.open1)
        | (go_at_call 16; ((with_reducible refine (implRegionOk B m d zb _ (HK.out.below BB9.out) HM.out hb2).mono ?_)); rw [hrb]; rintro e w8 ⟨rfl, B8⟩; have VR8 := Lib.hid (VR9.out.step B8); have BB8 := Lib.hid (later BB9.out B8); obtain ⟨l8, c8, f8⟩ := VR8.out.open1))
      have e : Pl.withoutOf za zb = [] := by simp [Pl.withoutOf, hrb]
      rw [e]
      exact bodyPost_ret (v := .agg #[.slice none 0 0]) (by simp [results, Try.results38, go_sem, c8]) rfl ⟨none, 0, rfl, Recs.nil _ _ _ (Nat.le_refl _), BB8.out.setCell (by show w.heap.size ≤ w.heap.size + 1 + 1; omega) _⟩
    · go_wp2_with (first
        | (go_at_call 16; ((with_reducible refine (implRegionOk A n c za _ (HL.out.below BZ.out) HN.out hb).mono ?_)); rw [hra]; rintro e w9 ⟨rfl, B9⟩; have V19 := Lib.hid (V1.out.step B9); have V29 := Lib.hid (V2.out.step B9); have VR9 := Lib.hid (VR.out.step B9); have BB9 := Lib.hid (later BZ.out B9); obtain ⟨l9, c9, f9⟩ := V29.out.open1)
        | (go_at_call 16; ((with_reducible refine (implRegionOk B m d zb _ (HK.out.below BB9.out) HM.out hb2).mono ?_)); rw [hrb]; rintro e w8 ⟨rfl, B8⟩; have W1 := Lib.hid (V19.out.step B8); have W2 := Lib.hid (V29.out.step B8); have VR8 := Lib.hid (VR9.out.step B8); have BB8 := Lib.hid (later BB9.out B8); clear B8))
      refine regionL (S := (fun w' => VB w' w.heap.size [.slice A n c] ∧ VB w' (w.heap.size + 1) [.slice B m d])) (L := 6) (by kernel_rfl) ?_ (fun hHeld => ?_)
      · (first | exact ⟨hHeld.1.step B9, hHeld.2.step B9⟩ | exact ⟨VB.drew W1.out, VB.drew W2.out⟩)
      refine takeL (i := 0) (oi := ?_) (v := ?_) ?_ (by kernel_rfl) (by kernel_rfl) (by kernel_rfl) (by kernel_rfl) ?_ (Or.inl ⟨?_, ?_⟩) (by assumption) ?_
      rotate_left 2
      · (simp only [List.getElem?_toArray, List.getElem?_cons_succ, List.getElem?_cons_zero]; rfl)
      · exact fun _ _ _ h => h
      · rfl
      · (intro w hSw; (try dsimp only at hSw); obtain ⟨h1S, h2S⟩ := hSw; obtain ⟨lS, c0S, _⟩ := h1S.open1; obtain ⟨lT, c0T, _⟩ := h2S.open1; clear h1S h2S; go_simp; (try with_reducible rfl))
      try simp only [Act.put, List.setIfInBounds_toArray, List.set_cons_zero, List.set_cons_succ]
      refine takeL (i := 2) (oi := ?_) (v := ?_) ?_ (by kernel_rfl) (by kernel_rfl) (by kernel_rfl) (by kernel_rfl) ?_ (Or.inl ⟨?_, ?_⟩) (by assumption) ?_
      rotate_left 2
      · (simp only [List.getElem?_toArray, List.getElem?_cons_succ, List.getElem?_cons_zero]; rfl)
      · exact fun _ _ _ h => h
      · rfl
      · (intro w hSw; (try dsimp only at hSw); obtain ⟨h1S, h2S⟩ := hSw; obtain ⟨lS, c0S, _⟩ := h1S.open1; obtain ⟨lT, c0T, _⟩ := h2S.open1; clear h1S h2S; go_simp; (try with_reducible rfl))
      try simp only [Act.put, List.setIfInBounds_toArray, List.set_cons_zero, List.set_cons_succ]
      refine readyL (rs := [1]) (by kernel_rfl) (by simp) ?_
      refine AllReadyL.cons (o := ?_) ?_ (fun K hK => ?_) AllReadyL.none_
      rotate_left
      · (simp only [List.getElem?_toArray, List.getElem?_cons_succ, List.getElem?_cons_zero]; rfl)
      go_simp
      go_at_call 56
      ((with_reducible refine (gridOfRegion_any A n c za _ (HL.out.below (Below.drew BB8.out)) HN.out hb).mono ?_))
      rintro e w7 ⟨rfl, B9⟩
      have VR7 := Lib.hid (VB.step (VB.drew VR8.out) B9)
      have BB7 := Lib.hid (later (Below.drew BB8.out) B9)
      refine hK.out _ _ ?_ (fun hHeld => ?_)
      · (first | exact ⟨hHeld.1.step B9, hHeld.2.step B9⟩ | exact ⟨VB.drew W1.out, VB.drew W2.out⟩)
      clear hK K
      try simp only [Act.put, List.setIfInBounds_toArray, List.set_cons_zero, List.set_cons_succ]
      refine readyL (rs := [3]) (by kernel_rfl) (by simp) ?_
      refine AllReadyL.cons (o := ?_) ?_ (fun K hK => ?_) AllReadyL.none_
      rotate_left
      · (simp only [List.getElem?_toArray, List.getElem?_cons_succ, List.getElem?_cons_zero]; rfl)
      go_simp
      go_at_call 56
      ((with_reducible refine (gridOfRegion_any B m d zb _ (HK.out.below BB7.out) HM.out hb2).mono ?_))
      rintro e w6 ⟨rfl, B9⟩
      have VR6 := Lib.hid (VB.step VR7.out B9)
      have BB6 := Lib.hid (later BB7.out B9)
      refine hK.out _ _ ?_ (fun hHeld => ?_)
      · (first | exact ⟨hHeld.1.step B9, hHeld.2.step B9⟩ | exact ⟨VB.drew W1.out, VB.drew W2.out⟩)
      clear hK K
      try simp only [Act.put, List.setIfInBounds_toArray, List.set_cons_zero, List.set_cons_succ]
      refine readyL (rs := [4]) (by kernel_rfl) (by simp) ?_
      refine AllReadyL.cons (o := ?_) ?_ (fun K hK => ?_) AllReadyL.none_
      rotate_left
      · (simp only [List.getElem?_toArray, List.getElem?_cons_succ, List.getElem?_cons_zero]; rfl)
      go_simp
      go_at_call 61
      ((with_reducible refine (gridWithout (Pl.gnum za) (Pl.gnum zb) m1.out m2.out _).mono ?_))
      rintro e w5 ⟨rfl, B9⟩
      have VR5 := Lib.hid (VB.step VR6.out B9)
      have BB5 := Lib.hid (later BB6.out B9)
      refine hK.out _ _ ?_ (fun hHeld => ?_)
      · (first | exact ⟨hHeld.1.step B9, hHeld.2.step B9⟩ | exact ⟨VB.drew W1.out, VB.drew W2.out⟩)
      clear hK K
      try simp only [Act.put, List.setIfInBounds_toArray, List.set_cons_zero, List.set_cons_succ]
      refine readyL (rs := [5]) (by kernel_rfl) (by simp) ?_
      refine AllReadyL.cons (o := ?_) ?_ (fun K hK => ?_) AllReadyL.none_
      rotate_left
      · (simp only [List.getElem?_toArray, List.getElem?_cons_succ, List.getElem?_cons_zero]; rfl)
      go_simp
      go_at_call 52
      ((with_reducible refine (region_any (fun y => Pl.gnum za y &&& (18446744073709551615 - Pl.gnum zb y)) (fun y x => Pl.gridL za y x && !Pl.gridL zb y x) HH.out _).mono ?_))
      rintro e w4 ⟨A4, k4, rfl, O4, B9⟩
      have I4 := Lib.hid O4
      have VR4 := Lib.hid (VB.step VR5.out B9)
      have BB4 := Lib.hid (later BB5.out B9)
      obtain ⟨l4, c4, f4⟩ := VR4.out.open1
      clear O4
      refine hK.out _ _ ?_ (fun hHeld => ?_)
      · (first | exact ⟨hHeld.1.step B9, hHeld.2.step B9⟩ | exact ⟨VB.drew W1.out, VB.drew W2.out⟩)
      clear hK K
      try simp only [Act.put, List.setIfInBounds_toArray, List.set_cons_zero, List.set_cons_succ]
      refine readyL (rs := [6]) (by kernel_rfl) (by simp) ?_
      refine AllReadyL.last (o := ?_) ?_ (fun K hK => ?_)
      rotate_left
      · (simp only [List.getElem?_toArray, List.getElem?_cons_succ, List.getElem?_cons_zero]; rfl)
      go_simp
      refine hK.out _ _ ?_
      clear hK K
      try simp only [Act.put, List.setIfInBounds_toArray, List.set_cons_zero, List.set_cons_succ]
      refine doneL (by kernel_rfl) ?_ _
      go_wp2_with fail
      have e : Pl.withoutOf za zb = Pl.canon (fun y x => Pl.gridL za y x && !Pl.gridL zb y x) := by simp [Pl.withoutOf, hra, hrb]
      rw [e]
      refine bodyPost_ret (v := .agg #[.slice A4 (Pl.canon (fun y x => Pl.gridL za y x && !Pl.gridL zb y x)).length k4]) (by simp [results, Try.results38, go_sem, c4]) rfl ⟨A4, k4, rfl, ?_, BB4.out.setCell (by show w.heap.size ≤ w.heap.size + 1 + 1; omega) _⟩
      have h1 := Own.far (p := ⟨w.heap.size + 1 + 1, 0, none⟩) I4.out (by left; show w.heap.size + 1 + 1 < w5.heap.size; exact VR5.out.lt) (.slice A4 (Pl.canon (fun y x => Pl.gridL za y x && !Pl.gridL zb y x)).length k4)
      exact Own.mono h1 BB5.out.size (by simp [World.setCell]) (Nat.le_refl _)
end Go.Proofs.Ytlnailpefdlnnaa
