/- Contracts: the program's regions: the grid of a list, RegionOf, RegionOk. -/
import Derived.Test.YtmjjepgnciibcaaRegion
import Derived.Test.YtmjjepgnciibcaaGrid
import Derived.Test.YtmjjepgnciibcaaOrd
namespace Go.Proofs.Ytmjjepgnciibcaa
open Go.RowKit
set_option linter.unusedVariables false
set_option linter.unusedSimpArgs false
namespace Pl
/-- The grid of a list, as numbers. -/
def gnum (l : List R) : Nat → Nat := l.foldl (fun m r y => m y ||| grow r y) (fun _ => 0)
theorem gnum_snoc (l : List R) (r : R) : gnum (l ++ [r]) = fun y => gnum l y ||| grow r y := by simp [gnum]
theorem gnum_take {l : List R} {k : Nat} {r : R} (h : l[k]? = some r) : gnum (l.take (k + 1)) = fun y => gnum (l.take k) y ||| grow r y := by rw [take_snoc h, gnum_snoc]
theorem gridL_snoc (l : List R) (r : R) (y x : Nat) : gridL (l ++ [r]) y x = (gridL l y x || r.has x y) := by simp [gridL]
theorem gnum_holds (l : List R) : Holds (gnum l) (gridL l) := by
  have key : ∀ (l : List R) (m : Nat → Nat) (G : Nat → Nat → Bool), Holds m G → Holds (l.foldl (fun m r y => m y ||| grow r y) m) (fun y x => G y x || gridL l y x) := by
    intro l
    induction l with
    | nil => intro m G h; exact h.congr fun y _ x _ => by simp [gridL]
    | cons r l ih =>
      intro m G h
      refine (ih _ _ (h.or (grow_holds r))).congr fun y _ x _ => ?_
      simp [gridL, Bool.or_assoc]
  exact (key l _ _ holds_zero).congr fun y _ x _ => by simp
theorem Holds.lt {m : Nat → Nat} {G : Nat → Nat → Bool} (h : Holds m G) : ∀ y, y < 16 → m y < 65536 := fun y hy => (h y hy).1
theorem grow_bad {r : R} (h : r.ok = false) : grow r = fun _ => 0 := by
  funext y
  have hs : R.ok ⟨0, 0, 16, 16⟩ = true := by decide
  simp [grow, inter, h, mrect, R.zero]
end Pl
attribute [local irreducible] gcells
set_option maxRecDepth 100000 in
set_option maxHeartbeats 4000000 in
theorem gridOfRegion_any (A : Option Addr) (n c : Nat) (zs : List Pl.R) (w : World) (HA : RArg w A zs) (hn : zs.length = n) (hb : n ≤ 9223372036854775807) : Calls Try.prog 46 #[.agg #[.slice A n c]] w fun e w' => e = .returned (.agg (gcells (Pl.gnum zs))) ∧ Below w.heap.size w w' := by
  have HN := Lib.hid hn
  have HL := Lib.hid HA
  clear HA hn
  go_enter Try.func46, Try.ntmps46
  go_wp2_with (refine wpList_gstore (fun _ => 0) _ _ rfl rfl rfl (by rw [gcells_zero]; rfl) (by rw [← gcells_zero]; exact GB.new (by simp)) ?_; intro w2 G2 O2 S2; have V2 := Lib.hid (VB.out (((VB.new (b := w.heap.size) (t := 28) (cs := [.slice A n c]) rfl).alloc _).alloc _) O2 (by omega)); have GR := Lib.hid (GB.out (b := w.heap.size + 1) (m := fun _ => 0) (GB.alloc (by rw [← gcells_zero]; exact GB.new (by simp)) _) O2 (by omega)); have BB := Lib.hid (O2.below (B := w.heap.size) (by omega) (by simp; omega)); have BB := Lib.hid ((show Below w.heap.size w _ from by go_grown).trans BB.out); have GG := Lib.hid G2; obtain ⟨l0, c0, f0⟩ := V2.out.open1; clear O2 S2 G2)
  go_loopw [10] (fun sk wr => ∃ k : Nat, k ≤ n ∧ sk = .int .i64 k ∧ Hid (GB wr (w.heap.size + 1 + 1) (Pl.gnum (zs.take k))) ∧ Hid (GB wr (w.heap.size + 1) (fun _ => 0)) ∧ Hid (Below w.heap.size w wr)) (fun sk _ => n - (intOf sk).toNat)
  case atStart => exact ⟨0, by omega, rfl, GG, GR, BB⟩
  case round =>
    obtain ⟨wo, rfl⟩ : ∃ wo : World, wo = wr := ⟨_, rfl⟩
    obtain ⟨k, hk, rfl, hG, hR, hB⟩ := hrel
    have kp0 : (0 : Int) ≤ (k : Int) := Int.natCast_nonneg _
    clear l0 c0 f0
    by_cases hlt : k < n
    · have kp1 : (k : Int) < n := by omega
      obtain ⟨g1, o1, z, rfl, lg, hz, p0, p1, p2, p3⟩ := (HL.out.below hB.out).at_ HN.out hlt
      have HZ := Lib.hid hz
      clear hz
      have m1 := Lib.hid (Pl.gnum_holds (zs.take k)).lt
      have m2 := Lib.hid (Pl.grow_holds z).lt
      go_wp2_with fail
      have VZ := Lib.hid (VB.new (w := wo) (b := wo.heap.size) (t := 50) (cs := [.int .i64 z.x, .int .i64 z.y, .int .i64 z.w, .int .i64 z.h]) rfl)
      have GZ := Lib.hid (hG.out.alloc (.cells #[.int .i64 z.x, .int .i64 z.y, .int .i64 z.w, .int .i64 z.h] 50 (0, 0)))
      have RZ := Lib.hid (hR.out.alloc (.cells #[.int .i64 z.x, .int .i64 z.y, .int .i64 z.w, .int .i64 z.h] 50 (0, 0)))
      have BZ := Lib.hid (hB.out.alloc hB.out.size (.cells #[.int .i64 z.x, .int .i64 z.y, .int .i64 z.w, .int .i64 z.h] 50 (0, 0)))
      generalize wo.alloc (.cells #[.int .i64 z.x, .int .i64 z.y, .int .i64 z.w, .int .i64 z.h] 50 (0, 0)) = wv at *
      have HH := Lib.hid (Pl.gnum_take HZ.out)
      refine regionL (S := (fun w' => GB w' (w.heap.size + 1 + 1) (Pl.gnum (zs.take k)) ∧ VB w' wo.heap.size [.int .i64 z.x, .int .i64 z.y, .int .i64 z.w, .int .i64 z.h])) (L := 4) (by kernel_rfl) ?_ (fun hHeld => ?_)
      · (first | exact ⟨hHeld.1.below B9 hHeld.1.lt, hHeld.2.step B9⟩ | exact ⟨GB.drew GZ.out, VB.drew VZ.out⟩)
      refine takeL (i := 0) (oi := ?_) (v := .agg (gcells (Pl.gnum (zs.take k)))) ?_ (by kernel_rfl) (by kernel_rfl) (by kernel_rfl) (by kernel_rfl) ?_ (yields_gload (b := w.heap.size + 1 + 1) ?_ (Operand.tmp 3) ?_ ?_ ?_) (by assumption) ?_
      rotate_left 1
      · (simp only [List.getElem?_toArray, List.getElem?_cons_succ, List.getElem?_cons_zero]; rfl)
      · exact fun _ _ _ h => h
      · rfl
      · rfl
      · rfl
      · (intro w hSw; exact hSw.1)
      try simp only [Act.put, List.setIfInBounds_toArray, List.set_cons_zero, List.set_cons_succ]
      refine takeL (i := 1) (oi := ?_) (v := ?_) ?_ (by kernel_rfl) (by kernel_rfl) (by kernel_rfl) (by kernel_rfl) ?_ (Or.inl ⟨?_, ?_⟩) (by assumption) ?_
      rotate_left 2
      · (simp only [List.getElem?_toArray, List.getElem?_cons_succ, List.getElem?_cons_zero]; rfl)
      · exact fun _ _ _ h => h
      · rfl
      · (intro w hSw; (try dsimp only at hSw); obtain ⟨gS, vS⟩ := hSw; obtain ⟨lS, c0S, c1S, c2S, c3S, _⟩ := vS.open4; clear gS vS; go_simp; (try with_reducible rfl))
      try simp only [Act.put, List.setIfInBounds_toArray, List.set_cons_zero, List.set_cons_succ]
      refine readyL (rs := [2]) (by kernel_rfl) (by simp) ?_
      refine AllReadyL.cons (o := ?_) ?_ (fun K hK => ?_) AllReadyL.none_
      rotate_left
      · (simp only [List.getElem?_toArray, List.getElem?_cons_succ, List.getElem?_cons_zero]; rfl)
      go_simp
      go_at_call 72
      ((with_reducible refine (gridOf_any z.x z.y z.w z.h _).mono ?_))
      rw [show (Pl.R.mk z.x z.y z.w z.h) = z from rfl]
      rintro e w9 ⟨rfl, B9⟩
      have RR9 := Lib.hid (RZ.out.drew.below B9 RZ.out.lt)
      have BB9 := Lib.hid (later (Below.drew BZ.out) B9)
      refine hK.out _ _ ?_ (fun hHeld => ?_)
      · (first | exact ⟨hHeld.1.below B9 hHeld.1.lt, hHeld.2.step B9⟩ | exact ⟨GB.drew GZ.out, VB.drew VZ.out⟩)
      clear hK K
      try simp only [Act.put, List.setIfInBounds_toArray, List.set_cons_zero, List.set_cons_succ]
      refine readyL (rs := [3]) (by kernel_rfl) (by simp) ?_
      refine AllReadyL.cons (o := ?_) ?_ (fun K hK => ?_) AllReadyL.none_
      rotate_left
      · (simp only [List.getElem?_toArray, List.getElem?_cons_succ, List.getElem?_cons_zero]; rfl)
      go_simp
      go_at_call 71
      ((with_reducible refine (gridOr (Pl.gnum (zs.take k)) (Pl.grow z) m1.out m2.out _).mono ?_))
      rintro e w8 ⟨rfl, B8⟩
      have B9 := B8
      have RR9 := Lib.hid (RR9.out.below B8 RR9.out.lt)
      have BB9 := Lib.hid (later BB9.out B8)
      refine hK.out _ _ ?_ (fun hHeld => ?_)
      · (first | exact ⟨hHeld.1.below B9 hHeld.1.lt, hHeld.2.step B9⟩ | exact ⟨GB.drew GZ.out, VB.drew VZ.out⟩)
      clear hK K
      try simp only [Act.put, List.setIfInBounds_toArray, List.set_cons_zero, List.set_cons_succ]
      refine readyL (rs := [4]) (by kernel_rfl) (by simp) ?_
      refine AllReadyL.last (o := ?_) ?_ (fun K hK => ?_)
      rotate_left
      · (simp only [List.getElem?_toArray, List.getElem?_cons_succ, List.getElem?_cons_zero]; rfl)
      rw [if_pos (by rfl)]
      refine wp_gstore (fun y => (Pl.gnum (zs.take k)) y ||| Pl.grow z y) _ _ rfl rfl rfl hHeld.1 ?_
      intro w3 G3 O3 S3
      refine hK.out _ _ ?_
      clear hK K
      try simp only [Act.put, List.setIfInBounds_toArray, List.set_cons_zero, List.set_cons_succ]
      refine doneL (by kernel_rfl) ?_ _
      go_wp2_with fail
      go_roundw
      case rel => exact ⟨k + 1, by omega, by go_num, Lib.hid (by rw [HH.out]; exact G3), Lib.hid ((RR9.out.out O3 (by omega))), Lib.hid (BB9.out.trans (O3.below (by omega) (by have := BB9.out.size; omega)))⟩
      case measure => simp [intOf]; omega
    · obtain rfl : k = n := by omega
      have e : zs.take k = zs := List.take_of_length_le (by rw [HN.out]; exact Nat.le_refl _)
      rw [e] at hG
      go_wp2_with (first
        | (refine wpList_gload _ rfl rfl rfl hG.out ?_)
        | (refine wpList_gstore (Pl.gnum zs) _ _ rfl rfl rfl rfl hR.out ?_; intro w9 G9 O9 S9))
      exact bodyPost_ret (gresult rfl rfl G9) rfl ⟨rfl, hB.out.trans (O9.below (by omega) (by have := hB.out.size; omega))⟩
set_option maxRecDepth 100000 in
set_option maxHeartbeats 4000000 in
theorem implRegionOf (A : Option Addr) (n c : Nat) (zs : List Pl.R) (w : World) (HA : RArg w A zs) (hn : zs.length = n) (hb : n ≤ 9223372036854775807) : Calls Try.prog 70 #[.slice A n c] w (NewReg (Pl.regionOf zs) w) := by
  have HN := Lib.hid hn
  have HL := Lib.hid HA
  clear HA hn
  go_enter Try.func70, Try.ntmps70
  go_wp2_with (refine wpList_gstore (fun _ => 0) _ _ rfl rfl rfl (by rw [gcells_zero]; rfl) (by rw [← gcells_zero]; exact GB.new (by simp)) ?_; intro w2 G2 O2 S2; have GR := Lib.hid (VB.out (VB.alloc (VB.new (b := w.heap.size) (t := 28) (cs := [.slice none 0 0]) rfl) _) O2 (by omega)); have BB := Lib.hid (O2.below (B := w.heap.size) (by omega) (by simp; omega)); have BB := Lib.hid ((show Below w.heap.size w _ from by go_grown).trans BB.out); have GG := Lib.hid G2; clear O2 S2 G2)
  go_loopw [9] (fun sk wr => ∃ k : Nat, k ≤ n ∧ sk = .int .i64 k ∧ Hid (GB wr (w.heap.size + 1) (Pl.gnum (zs.take k))) ∧ Hid (VB wr w.heap.size [.slice none 0 0]) ∧ Hid (Below w.heap.size w wr)) (fun sk _ => n - (intOf sk).toNat)
  case atStart => exact ⟨0, by omega, rfl, GG, GR, BB⟩
  case round =>
    obtain ⟨wo, rfl⟩ : ∃ wo : World, wo = wr := ⟨_, rfl⟩
    obtain ⟨k, hk, rfl, hG, hR, hB⟩ := hrel
    have kp0 : (0 : Int) ≤ (k : Int) := Int.natCast_nonneg _
    by_cases hlt : k < n
    · have kp1 : (k : Int) < n := by omega
      obtain ⟨g1, o1, z, rfl, lg, hz, p0, p1, p2, p3⟩ := (HL.out.below hB.out).at_ HN.out hlt
      have HZ := Lib.hid hz
      clear hz
      have m1 := Lib.hid (Pl.gnum_holds (zs.take k)).lt
      have m2 := Lib.hid (Pl.grow_holds z).lt
      have HH := Lib.hid (Pl.gnum_take HZ.out)
      have VZ := Lib.hid (VB.new (w := wo) (b := wo.heap.size) (t := 50) (cs := [.int .i64 z.x, .int .i64 z.y, .int .i64 z.w, .int .i64 z.h]) rfl)
      have GZ := Lib.hid (hG.out.alloc (.cells #[.int .i64 z.x, .int .i64 z.y, .int .i64 z.w, .int .i64 z.h] 50 (0, 0)))
      have RZ := Lib.hid (hR.out.alloc (.cells #[.int .i64 z.x, .int .i64 z.y, .int .i64 z.w, .int .i64 z.h] 50 (0, 0)))
      have BZ := Lib.hid (hB.out.alloc hB.out.size (.cells #[.int .i64 z.x, .int .i64 z.y, .int .i64 z.w, .int .i64 z.h] 50 (0, 0)))
      have bsz := BZ.out.size
      cases hok : Pl.rectOk z.x z.y z.w z.h
      · go_wp2_with (go_at_call 76; ((with_reducible refine (implRectOk z.x z.y z.w z.h _).mono ?_)); rw [hok]; rintro e w9 ⟨rfl, B9⟩)
        go_roundw
        case rel => exact ⟨k + 1, by omega, by go_num, Lib.hid (by rw [HH.out, Pl.grow_bad (r := z) hok]; simp only [Nat.or_zero]; exact GZ.out.below B9 GZ.out.lt), Lib.hid (RZ.out.step B9), Lib.hid (later BZ.out B9)⟩
        case measure => simp [intOf]; omega
      · go_wp2_with (go_at_call 76; ((with_reducible refine (implRectOk z.x z.y z.w z.h _).mono ?_)); rw [hok]; rintro e wv ⟨rfl, B9⟩; have V9 := Lib.hid (VZ.out.step B9); have G9 := Lib.hid (GZ.out.below B9 GZ.out.lt); have R9 := Lib.hid (RZ.out.step B9); have B9' := Lib.hid (later BZ.out B9); clear VZ GZ RZ BZ B9)
        obtain ⟨VZ, GZ, RZ, BZ⟩ : Hid _ ∧ Hid _ ∧ Hid _ ∧ Hid _ := ⟨V9, G9, R9, B9'⟩
        refine regionL (S := (fun w' => GB w' (w.heap.size + 1) (Pl.gnum (zs.take k)) ∧ VB w' wo.heap.size [.int .i64 z.x, .int .i64 z.y, .int .i64 z.w, .int .i64 z.h])) (L := 4) (by kernel_rfl) ?_ (fun hHeld => ?_)
        · (first | exact ⟨hHeld.1.below B9 hHeld.1.lt, hHeld.2.step B9⟩ | exact ⟨GB.drew GZ.out, VB.drew VZ.out⟩)
        refine takeL (i := 0) (oi := ?_) (v := .agg (gcells (Pl.gnum (zs.take k)))) ?_ (by kernel_rfl) (by kernel_rfl) (by kernel_rfl) (by kernel_rfl) ?_ (yields_gload (b := w.heap.size + 1) ?_ (Operand.tmp 3) ?_ ?_ ?_) (by assumption) ?_
        rotate_left 1
        · (simp only [List.getElem?_toArray, List.getElem?_cons_succ, List.getElem?_cons_zero]; rfl)
        · exact fun _ _ _ h => h
        · rfl
        · rfl
        · rfl
        · (intro w hSw; exact hSw.1)
        try simp only [Act.put, List.setIfInBounds_toArray, List.set_cons_zero, List.set_cons_succ]
        refine takeL (i := 1) (oi := ?_) (v := ?_) ?_ (by kernel_rfl) (by kernel_rfl) (by kernel_rfl) (by kernel_rfl) ?_ (Or.inl ⟨?_, ?_⟩) (by assumption) ?_
        rotate_left 2
        · (simp only [List.getElem?_toArray, List.getElem?_cons_succ, List.getElem?_cons_zero]; rfl)
        · exact fun _ _ _ h => h
        · rfl
        · (intro w hSw; (try dsimp only at hSw); obtain ⟨gS, vS⟩ := hSw; obtain ⟨lS, c0S, c1S, c2S, c3S, _⟩ := vS.open4; clear gS vS; go_simp; (try with_reducible rfl))
        try simp only [Act.put, List.setIfInBounds_toArray, List.set_cons_zero, List.set_cons_succ]
        refine readyL (rs := [2]) (by kernel_rfl) (by simp) ?_
        refine AllReadyL.cons (o := ?_) ?_ (fun K hK => ?_) AllReadyL.none_
        rotate_left
        · (simp only [List.getElem?_toArray, List.getElem?_cons_succ, List.getElem?_cons_zero]; rfl)
        go_simp
        go_at_call 72
        ((with_reducible refine (gridOf_any z.x z.y z.w z.h _).mono ?_))
        rw [show (Pl.R.mk z.x z.y z.w z.h) = z from rfl]
        rintro e w9 ⟨rfl, B9⟩
        have RR9 := Lib.hid (RZ.out.drew.below B9 RZ.out.lt)
        have BB9 := Lib.hid (later (Below.drew BZ.out) B9)
        refine hK.out _ _ ?_ (fun hHeld => ?_)
        · (first | exact ⟨hHeld.1.below B9 hHeld.1.lt, hHeld.2.step B9⟩ | exact ⟨GB.drew GZ.out, VB.drew VZ.out⟩)
        clear hK K
        try simp only [Act.put, List.setIfInBounds_toArray, List.set_cons_zero, List.set_cons_succ]
        refine readyL (rs := [3]) (by kernel_rfl) (by simp) ?_
        refine AllReadyL.cons (o := ?_) ?_ (fun K hK => ?_) AllReadyL.none_
        rotate_left
        · (simp only [List.getElem?_toArray, List.getElem?_cons_succ, List.getElem?_cons_zero]; rfl)
        go_simp
        go_at_call 71
        ((with_reducible refine (gridOr (Pl.gnum (zs.take k)) (Pl.grow z) m1.out m2.out _).mono ?_))
        rintro e w8 ⟨rfl, B8⟩
        have B9 := B8
        have RR9 := Lib.hid (RR9.out.below B8 RR9.out.lt)
        have BB9 := Lib.hid (later BB9.out B8)
        refine hK.out _ _ ?_ (fun hHeld => ?_)
        · (first | exact ⟨hHeld.1.below B9 hHeld.1.lt, hHeld.2.step B9⟩ | exact ⟨GB.drew GZ.out, VB.drew VZ.out⟩)
        clear hK K
        try simp only [Act.put, List.setIfInBounds_toArray, List.set_cons_zero, List.set_cons_succ]
        refine readyL (rs := [4]) (by kernel_rfl) (by simp) ?_
        refine AllReadyL.last (o := ?_) ?_ (fun K hK => ?_)
        rotate_left
        · (simp only [List.getElem?_toArray, List.getElem?_cons_succ, List.getElem?_cons_zero]; rfl)
        rw [if_pos (by rfl)]
        refine wp_gstore (fun y => (Pl.gnum (zs.take k)) y ||| Pl.grow z y) _ _ rfl rfl rfl hHeld.1 ?_
        intro w3 G3 O3 S3
        refine hK.out _ _ ?_
        clear hK K
        try simp only [Act.put, List.setIfInBounds_toArray, List.set_cons_zero, List.set_cons_succ]
        refine doneL (by kernel_rfl) ?_ _
        go_wp2_with fail
        go_roundw
        case rel => exact ⟨k + 1, by omega, by go_num, Lib.hid (by rw [HH.out]; exact G3), Lib.hid ((RR9.out.out O3 (by omega))), Lib.hid (BB9.out.trans (O3.below (by omega) (by have := BB9.out.size; omega)))⟩
        case measure => simp [intOf]; omega
    · obtain rfl : k = n := by omega
      have e : zs.take k = zs := List.take_of_length_le (by rw [HN.out]; exact Nat.le_refl _)
      rw [e] at hG
      go_wp2_with (first
        | (refine wpList_gload _ rfl rfl rfl hG.out ?_)
        | (go_at_call 33; ((with_reducible refine (region_any (Pl.gnum zs) (Pl.gridL zs) (Pl.gnum_holds zs) _).mono ?_)); rintro e w9 ⟨A9, c9, rfl, O9, B9⟩; have R9 := Lib.hid (hR.out.step B9); have I9 := Lib.hid O9; obtain ⟨l9, k9, f9⟩ := R9.out.open1; have BB9 := Lib.hid (later hB.out B9); have s9 := hB.out.size; clear O9))
      refine bodyPost_ret (v := .agg #[.slice A9 (Pl.regionOf zs).length c9]) (by simp [results, Try.results70, go_sem, k9]; rfl) rfl ⟨A9, c9, rfl, ?_, BB9.out.setCell (Nat.le_refl _) _⟩
      have h1 := Own.far (p := ⟨w.heap.size, 0, none⟩) I9.out (by left; have := hR.out.lt; simpa using this) (.slice A9 (Pl.regionOf zs).length c9)
      exact Own.mono h1 (by omega) (by simp [World.setCell]) (Nat.le_refl _)
end Go.Proofs.Ytmjjepgnciibcaa
