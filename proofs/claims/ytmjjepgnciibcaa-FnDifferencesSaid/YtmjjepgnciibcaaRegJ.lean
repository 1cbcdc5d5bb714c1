/- Contracts: the program's RegionOk, UnionOf, CommonOf, WithoutOf, InRegion, AreaOf, BoundsOf. -/
import Derived.Test.YtmjjepgnciibcaaRegI
import Derived.Test.YtmjjepgnciibcaaRect4
import Derived.Deep.Cut
namespace Go.Proofs.Ytmjjepgnciibcaa
open Go.RowKit
set_option linter.unusedVariables false
set_option linter.unusedSimpArgs false
attribute [local irreducible] gcells
theorem field_region (w : World) (A : Option Addr) (n c : Nat) : (Instr.field 28 (.agg #[.slice A n c]) 0).run Try.prog w = .ok (.slice A n c) w := by
  have u1 := Try.underlying28
  have u2 := Try.underlying26
  have a3 := Try.isAgg26
  unfold Instr.field asAgg
  go_simp
theorem Pl.regionOf_length (l : List Pl.R) : (Pl.regionOf l).length ≤ 256 := Pl.canon_length _
set_option maxRecDepth 100000 in
set_option maxHeartbeats 4000000 in
theorem implRegionOk (A : Option Addr) (n c : Nat) (zs : List Pl.R) (w : World) (HA : RArg w A zs) (hn : zs.length = n) (hb : n ≤ 9223372036854775807) : Calls Try.prog 45 #[.agg #[.slice A n c]] w fun e w' => e = .returned (.bool (Pl.regionOk zs)) ∧ Below w.heap.size w w' := by
  have HN := Lib.hid hn
  have HL := Lib.hid HA
  clear HA hn
  have h256 := Pl.regionOf_length zs
  go_enter Try.func45, Try.ntmps45
  go_wp2_with fail
  have VZ := Lib.hid (VB.new (w := w) (b := w.heap.size) (t := 28) (cs := [.slice A n c]) rfl)
  have BZ : Hid (Below w.heap.size w (w.alloc (.cells #[.slice A n c] 28 (0, 0)))) := Lib.hid (by go_grown)
  generalize w.alloc (.cells #[.slice A n c] 28 (0, 0)) = wv at *
  have HF := fun w A n c => field_region w A n c
  refine regionL (S := (fun w' => VB w' w.heap.size [.slice A n c])) (L := 8) (by kernel_rfl) ?_ (fun hHeld => ?_)
  · (first | exact VB.step hHeld B9 | exact VB.drew VZ.out)
  refine takeL (i := 0) (oi := ?_) (v := ?_) ?_ (by kernel_rfl) (by kernel_rfl) (by kernel_rfl) (by kernel_rfl) ?_ (Or.inl ⟨?_, ?_⟩) (by assumption) ?_
  rotate_left 2
  · (simp only [List.getElem?_toArray, List.getElem?_cons_succ, List.getElem?_cons_zero]; rfl)
  · exact fun _ _ _ h => h
  · rfl
  · (intro w hSw; (try dsimp only at hSw); obtain ⟨lS, c0S, _⟩ := VB.open1 hSw; go_simp; (try with_reducible rfl))
  try simp only [Act.put, List.setIfInBounds_toArray, List.set_cons_zero, List.set_cons_succ]
  refine takeL (i := 1) (oi := ?_) (v := ?_) ?_ (by kernel_rfl) (by kernel_rfl) (by kernel_rfl) (by kernel_rfl) ?_ (Or.inl ⟨?_, ?_⟩) (by assumption) ?_
  rotate_left 2
  · (simp only [List.getElem?_toArray, List.getElem?_cons_succ, List.getElem?_cons_zero]; rfl)
  · exact fun _ _ _ h => h
  · rfl
  · (intro w hSw; (try dsimp only at hSw); obtain ⟨lS, c0S, _⟩ := VB.open1 hSw; go_simp; (try with_reducible rfl))
  try simp only [Act.put, List.setIfInBounds_toArray, List.set_cons_zero, List.set_cons_succ]
  refine takeL (i := 4) (oi := ?_) (v := ?_) ?_ (by kernel_rfl) (by kernel_rfl) (by kernel_rfl) (by kernel_rfl) ?_ (Or.inl ⟨?_, ?_⟩) (by assumption) ?_
  rotate_left 2
  · (simp only [List.getElem?_toArray, List.getElem?_cons_succ, List.getElem?_cons_zero]; rfl)
  · exact fun _ _ _ h => h
  · rfl
  · (intro w hSw; (try dsimp only at hSw); obtain ⟨lS, c0S, _⟩ := VB.open1 hSw; go_simp; (try with_reducible rfl))
  try simp only [Act.put, List.setIfInBounds_toArray, List.set_cons_zero, List.set_cons_succ]
  refine takeL (i := 5) (oi := ?_) (v := ?_) ?_ (by kernel_rfl) (by kernel_rfl) (by kernel_rfl) (by kernel_rfl) ?_ (Or.inl ⟨?_, ?_⟩) (by assumption) ?_
  rotate_left 2
  · (simp only [List.getElem?_toArray, List.getElem?_cons_succ, List.getElem?_cons_zero]; rfl)
  · exact fun _ _ _ h => h
  · rfl
  · (intro w hSw; (try dsimp only at hSw); obtain ⟨lS, c0S, _⟩ := VB.open1 hSw; go_simp; (try with_reducible rfl))
  try simp only [Act.put, List.setIfInBounds_toArray, List.set_cons_zero, List.set_cons_succ]
  refine readyL (rs := [2]) (by kernel_rfl) (by simp) ?_
  refine AllReadyL.cons (o := ?_) ?_ (fun K hK => ?_) AllReadyL.none_
  rotate_left
  · (simp only [List.getElem?_toArray, List.getElem?_cons_succ, List.getElem?_cons_zero]; rfl)
  go_simp
  go_at_call 70
  ((with_reducible refine (implRegionOf A n c zs _ (HL.out.below (Below.drew BZ.out)) HN.out hb).mono ?_))
  rintro e w9 ⟨A9, c9, rfl, O9, B9⟩
  have I9 := Lib.hid O9
  have BB9 := Lib.hid (later (Below.drew BZ.out) B9)
  clear O9
  refine hK.out _ _ ?_ (fun hHeld => ?_)
  · (first | exact VB.step hHeld B9 | exact VB.drew VZ.out)
  clear hK K
  try simp only [Act.put, List.setIfInBounds_toArray, List.set_cons_zero, List.set_cons_succ]
  refine takeL (i := 3) (oi := ?_) (v := ?_) ?_ (by kernel_rfl) (by kernel_rfl) (by kernel_rfl) (by kernel_rfl) ?_ (Or.inl ⟨?_, ?_⟩) (by assumption) ?_
  rotate_left 2
  · (simp only [List.getElem?_toArray, List.getElem?_cons_succ, List.getElem?_cons_zero]; rfl)
  · exact fun _ _ _ h => h
  · rfl
  · (intro w hSw; (try dsimp only at hSw); obtain ⟨lS, c0S, _⟩ := VB.open1 hSw; go_simp; (try with_reducible rfl))
  try simp only [Act.put, List.setIfInBounds_toArray, List.set_cons_zero, List.set_cons_succ]
  refine readyL (rs := [6]) (by kernel_rfl) (by simp) ?_
  refine AllReadyL.cons (o := ?_) ?_ (fun K hK => ?_) AllReadyL.none_
  rotate_left
  · (simp only [List.getElem?_toArray, List.getElem?_cons_succ, List.getElem?_cons_zero]; rfl)
  go_simp
  go_at_call 69
  ((with_reducible refine (equal_any A9 A (Pl.regionOf zs).length n c9 c (Pl.regionOf zs) zs _ (Recs.arg I9.out) (HL.out.below BB9.out) rfl HN.out (by omega) hb).mono ?_))
  rintro e w8 ⟨rfl, B9'⟩
  have B9 := B9'
  have B8 := later BB9.out B9'
  refine hK.out _ _ ?_ (fun hHeld => ?_)
  · (first | exact VB.step hHeld B9 | exact VB.drew VZ.out)
  clear hK K
  try simp only [Act.put, List.setIfInBounds_toArray, List.set_cons_zero, List.set_cons_succ]
  refine takeL (i := 7) (oi := ?_) (v := ?_) ?_ (by kernel_rfl) (by kernel_rfl) (by kernel_rfl) (by kernel_rfl) ?_ (Or.inl ⟨?_, ?_⟩) (by assumption) ?_
  rotate_left 2
  · (simp only [List.getElem?_toArray, List.getElem?_cons_succ, List.getElem?_cons_zero]; rfl)
  · exact fun _ _ _ h => h
  · rfl
  · (intro w hSw; (try dsimp only at hSw); obtain ⟨lS, c0S, _⟩ := VB.open1 hSw; go_simp; (try with_reducible rfl))
  try simp only [Act.put, List.setIfInBounds_toArray, List.set_cons_zero, List.set_cons_succ]
  refine doneL (by kernel_rfl) ?_ _
  go_wp2_with fail
  go_ret
  exact ⟨rfl, B8⟩
/-- impl.UnionOf. -/
def Pl.unionOf (a b : List Pl.R) : List Pl.R := if Pl.regionOk a && Pl.regionOk b then Pl.canon (fun y x => Pl.gridL a y x ||Pl.gridL b y x) else []
/-- impl.CommonOf. -/
def Pl.commonOf (a b : List Pl.R) : List Pl.R := if Pl.regionOk a && Pl.regionOk b then Pl.canon (fun y x => Pl.gridL a y x &&Pl.gridL b y x) else []
/-- impl.WithoutOf. -/
def Pl.withoutOf (a b : List Pl.R) : List Pl.R := if Pl.regionOk a && Pl.regionOk b then Pl.canon (fun y x => Pl.gridL a y x && !Pl.gridL b y x) else []
end Go.Proofs.Ytmjjepgnciibcaa
