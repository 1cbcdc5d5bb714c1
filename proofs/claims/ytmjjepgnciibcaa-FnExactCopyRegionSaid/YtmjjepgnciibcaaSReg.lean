/- Contracts: the reference's RegionOf, RegionOk, UnionOf, CommonOf, WithoutOf, InRegion, AreaOf, BoundsOf. -/
import Derived.Test.YtmjjepgnciibcaaSGrid
import Derived.Test.YtmjjepgnciibcaaSCanon
import Derived.Test.YtmjjepgnciibcaaRegK
namespace Go.Proofs.Ytmjjepgnciibcaa
open Go.RowKit
set_option linter.unusedVariables false
set_option linter.unusedSimpArgs false
theorem Pl.flat_set1 (H : Nat → Nat → Bool) {k : Nat} (hk : k < 256) (v : Bool) : (Pl.flat H).set k v = Pl.flat (fun j i => if j * 16 + i = k then v else H j i) := by
  have := Pl.flat_set H (y := k / 16) (x := k % 16) (by omega) (by omega) v
  rw [show k / 16 * 16 + k % 16 = k by omega] at this
  rw [this]
  refine Pl.flat_congr fun j hj i hi => ?_
  by_cases e : j * 16 + i = k
  · rw [if_pos (by omega), if_pos e]
  · rw [if_neg (by omega), if_neg e]
set_option maxRecDepth 100000 in
set_option maxHeartbeats 4000000 in
theorem specRegionOf (A : Option Addr) (n c : Nat) (zs : List Pl.R) (w : World) (HA : RArg w A zs) (hn : zs.length = n) (hb : n ≤ 9223372036854775807) : Calls Try.prog 66 #[.slice A n c] w (NewReg (Pl.regionOf zs) w) := by
  have HN := Lib.hid hn
  have HL := Lib.hid HA
  clear HA hn
  go_enter Try.func66, Try.ntmps66
  go_upto_region 1 with fail
  have VR := Lib.hid (VB.new (w := w) (b := w.heap.size) (t := 28) (cs := [.slice none 0 0]) rfl)
  have BZ : Hid (Below w.heap.size w (w.alloc (.cells #[.slice none 0 0] 28 (0, 0)))) := Lib.hid (by go_grown)
  generalize w.alloc (.cells #[.slice none 0 0] 28 (0, 0)) = wv at *
  go_wp2_with (first
    | (go_at_call 42; ((with_reducible refine (l03Grid_any A n c zs _ (HL.out.below BZ.out) HN.out hb).mono ?_)); rintro e w9 ⟨A9, c9, rfl, O9, B9⟩; have I9 := Lib.hid O9; have VR9 := Lib.hid (VR.out.step B9); have BB9 := Lib.hid (later BZ.out B9); clear O9 B9)
    | (go_at_call 30; ((with_reducible refine (l03Canon_any A9 c9 _ _ (Pl.gridL zs) _ I9.out).mono ?_)); rintro e w8 ⟨A8, c8, rfl, O8, B8⟩; have I8 := Lib.hid O8; have VR8 := Lib.hid (VR9.out.step B8); have BB8 := Lib.hid (later BB9.out B8); obtain ⟨l8, r8, f8⟩ := VR8.out.open1; have ls := VR9.out.lt; clear O8 B8))
  refine bodyPost_ret (v := .agg #[.slice A8 (Pl.canon (Pl.gridL zs)).length c8]) (by simp [results, Try.results66, go_sem, r8]) rfl ⟨A8, c8, rfl, ?_, BB8.out.setCell (Nat.le_refl _) _⟩
  have h1 := Own.far (p := ⟨w.heap.size, 0, none⟩) I8.out (by left; exact ls) (.slice A8 (Pl.canon (Pl.gridL zs)).length c8)
  exact Own.mono h1 BB9.out.size (by simp [World.setCell]) (Nat.le_refl _)
set_option maxRecDepth 100000 in
set_option maxHeartbeats 4000000 in
theorem specRegionOk (A : Option Addr) (n c : Nat) (zs : List Pl.R) (w : World) (HA : RArg w A zs) (hn : zs.length = n) (hb : n ≤ 9223372036854775807) : Calls Try.prog 41 #[.agg #[.slice A n c]] w fun e w' => e = .returned (.bool (Pl.regionOk zs)) ∧ Below w.heap.size w w' := by
  have HN := Lib.hid hn
  have HL := Lib.hid HA
  clear HA hn
  have h256 := Pl.regionOf_length zs
  go_enter Try.func41, Try.ntmps41
  go_wp2_with fail
  have VZ := Lib.hid (VB.new (w := w) (b := w.heap.size) (t := 28) (cs := [.slice A n c]) rfl)
  have BZ : Hid (Below w.heap.size w (w.alloc (.cells #[.slice A n c] 28 (0, 0)))) := Lib.hid (by go_grown)
  generalize w.alloc (.cells #[.slice A n c] 28 (0, 0)) = wv at *
  have HF := fun w A n c => field_region w A n c
  refine regionL (S := (fun w' => VB w' w.heap.size [.slice A n c])) (L := 8) (by kernel_rfl) ?_ (fun hHeld => ?_)
  · (first | exact VB.step hHeld B9 | exact VB.drew VZ.out)
  refine takeL (i := 0) (oi := ?_) (v := ?_) ?_ (by kernel_rfl) (by kernel_rfl) (by kernel_rfl) (by kernel_rfl) ?_ (Or.inl ⟨?_, ?_⟩) (by assumption) ?_
  rotate_left 2
  · (simp only [List.getElem?_toArray, List.getElem?_cons_succ, List.getElem?_cons_zero]; rfl)
  · exact fun _ _ _ h => h
  · rfl
  · (intro w hSw; (try dsimp only at hSw); obtain ⟨lS, c0S, _⟩ := VB.open1 hSw; go_simp; (try with_reducible rfl))
  try simp only [Act.put, List.setIfInBounds_toArray, List.set_cons_zero, List.set_cons_succ]
  refine takeL (i := 1) (oi := ?_) (v := ?_) ?_ (by kernel_rfl) (by kernel_rfl) (by kernel_rfl) (by kernel_rfl) ?_ (Or.inl ⟨?_, ?_⟩) (by assumption) ?_
  rotate_left 2
  · (simp only [List.getElem?_toArray, List.getElem?_cons_succ, List.getElem?_cons_zero]; rfl)
  · exact fun _ _ _ h => h
  · rfl
  · (intro w hSw; (try dsimp only at hSw); obtain ⟨lS, c0S, _⟩ := VB.open1 hSw; go_simp; (try with_reducible rfl))
  try simp only [Act.put, List.setIfInBounds_toArray, List.set_cons_zero, List.set_cons_succ]
  refine takeL (i := 4) (oi := ?_) (v := ?_) ?_ (by kernel_rfl) (by kernel_rfl) (by kernel_rfl) (by kernel_rfl) ?_ (Or.inl ⟨?_, ?_⟩) (by assumption) ?_
  rotate_left 2
  · (simp only [List.getElem?_toArray, List.getElem?_cons_succ, List.getElem?_cons_zero]; rfl)
  · exact fun _ _ _ h => h
  · rfl
  · (intro w hSw; (try dsimp only at hSw); obtain ⟨lS, c0S, _⟩ := VB.open1 hSw; go_simp; (try with_reducible rfl))
  try simp only [Act.put, List.setIfInBounds_toArray, List.set_cons_zero, List.set_cons_succ]
  refine takeL (i := 5) (oi := ?_) (v := ?_) ?_ (by kernel_rfl) (by kernel_rfl) (by kernel_rfl) (by kernel_rfl) ?_ (Or.inl ⟨?_, ?_⟩) (by assumption) ?_
  rotate_left 2
  · (simp only [List.getElem?_toArray, List.getElem?_cons_succ, List.getElem?_cons_zero]; rfl)
  · exact fun _ _ _ h => h
  · rfl
  · (intro w hSw; (try dsimp only at hSw); obtain ⟨lS, c0S, _⟩ := VB.open1 hSw; go_simp; (try with_reducible rfl))
  try simp only [Act.put, List.setIfInBounds_toArray, List.set_cons_zero, List.set_cons_succ]
  refine readyL (rs := [2]) (by kernel_rfl) (by simp) ?_
  refine AllReadyL.cons (o := ?_) ?_ (fun K hK => ?_) AllReadyL.none_
  rotate_left
  · (simp only [List.getElem?_toArray, List.getElem?_cons_succ, List.getElem?_cons_zero]; rfl)
  go_simp
  go_at_call 66
  ((with_reducible refine (specRegionOf A n c zs _ (HL.out.below (Below.drew BZ.out)) HN.out hb).mono ?_))
  rintro e w9 ⟨A9, c9, rfl, O9, B9⟩
  have I9 := Lib.hid O9
  have BB9 := Lib.hid (later (Below.drew BZ.out) B9)
  clear O9
  refine hK.out _ _ ?_ (fun hHeld => ?_)
  · (first | exact VB.step hHeld B9 | exact VB.drew VZ.out)
  clear hK K
  try simp only [Act.put, List.setIfInBounds_toArray, List.set_cons_zero, List.set_cons_succ]
  refine takeL (i := 3) (oi := ?_) (v := ?_) ?_ (by kernel_rfl) (by kernel_rfl) (by kernel_rfl) (by kernel_rfl) ?_ (Or.inl ⟨?_, ?_⟩) (by assumption) ?_
  rotate_left 2
  · (simp only [List.getElem?_toArray, List.getElem?_cons_succ, List.getElem?_cons_zero]; rfl)
  · exact fun _ _ _ h => h
  · rfl
  · (intro w hSw; (try dsimp only at hSw); obtain ⟨lS, c0S, _⟩ := VB.open1 hSw; go_simp; (try with_reducible rfl))
  try simp only [Act.put, List.setIfInBounds_toArray, List.set_cons_zero, List.set_cons_succ]
  refine readyL (rs := [6]) (by kernel_rfl) (by simp) ?_
  refine AllReadyL.cons (o := ?_) ?_ (fun K hK => ?_) AllReadyL.none_
  rotate_left
  · (simp only [List.getElem?_toArray, List.getElem?_cons_succ, List.getElem?_cons_zero]; rfl)
  go_simp
  go_at_call 65
  ((with_reducible refine (l03Same_any A9 A (Pl.regionOf zs).length n c9 c (Pl.regionOf zs) zs _ (Recs.arg I9.out) (HL.out.below BB9.out) rfl HN.out (by omega) hb).mono ?_))
  rintro e w8 ⟨rfl, B9'⟩
  have B9 := B9'
  have B8 := later BB9.out B9'
  refine hK.out _ _ ?_ (fun hHeld => ?_)
  · (first | exact VB.step hHeld B9 | exact VB.drew VZ.out)
  clear hK K
  try simp only [Act.put, List.setIfInBounds_toArray, List.set_cons_zero, List.set_cons_succ]
  refine takeL (i := 7) (oi := ?_) (v := ?_) ?_ (by kernel_rfl) (by kernel_rfl) (by kernel_rfl) (by kernel_rfl) ?_ (Or.inl ⟨?_, ?_⟩) (by assumption) ?_
  rotate_left 2
  · (simp only [List.getElem?_toArray, List.getElem?_cons_succ, List.getElem?_cons_zero]; rfl)
  · exact fun _ _ _ h => h
  · rfl
  · (intro w hSw; (try dsimp only at hSw); obtain ⟨lS, c0S, _⟩ := VB.open1 hSw; go_simp; (try with_reducible rfl))
  try simp only [Act.put, List.setIfInBounds_toArray, List.set_cons_zero, List.set_cons_succ]
  refine doneL (by kernel_rfl) ?_ _
  go_wp2_with fail
  go_ret
  exact ⟨rfl, B8⟩
end Go.Proofs.Ytmjjepgnciibcaa
