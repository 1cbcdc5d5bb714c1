/- Contracts: the reference's rows and canonical form of a grid. -/
import Derived.Test.YtmjjepgnciibcaaBls
import Derived.Test.YtmjjepgnciibcaaOrd
import Derived.Deep.CutBlock
namespace Go.Proofs.Ytmjjepgnciibcaa
open Go.RowKit
set_option linter.unusedVariables false
set_option linter.unusedSimpArgs false
set_option maxRecDepth 100000 in
set_option maxHeartbeats 4000000 in
theorem l03Row_any (A : Option Addr) (c lo hi : Nat) (H : Nat → Nat → Bool) (y z : Nat) (hy : y < 16) (hz : z < 16) (w : World) (HB : Bls w lo hi (.slice A 256 c) (Pl.flat H)) (zi : Int) (hzi : zi = (z : Int)) :
    Calls Try.prog 61 #[.slice A 256 c, .int .i64 y, .int .i64 zi] w fun e w' => e = .returned (.bool (Pl.rowEq (H y) (H z))) ∧ Below w.heap.size w w' := by
  subst hzi
  have HS := Lib.hid HB
  clear HB
  have yp0 : (0 : Int) ≤ (y : Int) := Int.natCast_nonneg _
  have yp1 : (y : Int) < 16 := by omega
  have zp0 : (0 : Int) ≤ (z : Int) := Int.natCast_nonneg _
  have zp1 : (z : Int) < 16 := by omega
  go_enter Try.func61, Try.ntmps61
  go_wp2_with fail
  go_loopw [7] (fun sx wr => ∃ x : Nat, x ≤ 16 ∧ sx = .int .i64 x ∧ (∀ i, i < x → H y i = H z i) ∧ Hid (Below w.heap.size w wr)) (fun sx _ => 16 - (intOf sx).toNat)
  case atStart => exact ⟨0, by omega, rfl, fun i hi => by omega, Lib.hid (Below.refl _ _)⟩
  case round =>
    obtain ⟨x, hx, rfl, hq, hB⟩ := hrel
    have HQ := Lib.hid hq
    clear hq
    have xp0 : (0 : Int) ≤ (x : Int) := Int.natCast_nonneg _
    by_cases hlt : x < 16
    · have xp1 : (x : Int) < 16 := by omega
      obtain ⟨g, rfl, lg, hg, lgs, cy, _⟩ := (HS.out.step hB.out).flatAt hy hlt
      obtain ⟨g', eg, _, _, _, cz, _⟩ := (HS.out.step hB.out).flatAt hz hlt
      injection eg with eg
      injection eg with eg
      subst eg
      have uy1 : IntKind.i64.wrap ((y : Int) * 16) = (y : Int) * 16 := IntWalk.i64_in _ ⟨by omega, by omega⟩
      have uy2 : IntKind.i64.wrap ((y : Int) * 16 + x) = (y : Int) * 16 + x := IntWalk.i64_in _ ⟨by omega, by omega⟩
      have uy3 : (0 : Int) ≤ (y : Int) * 16 + x := by omega
      have uy4 : (y : Int) * 16 + x < 256 := by omega
      have uy5 : ((y : Int) * 16 + x).toNat = y * 16 + x := by omega
      have uz1 : IntKind.i64.wrap ((z : Int) * 16) = (z : Int) * 16 := IntWalk.i64_in _ ⟨by omega, by omega⟩
      have uz2 : IntKind.i64.wrap ((z : Int) * 16 + x) = (z : Int) * 16 + x := IntWalk.i64_in _ ⟨by omega, by omega⟩
      have uz3 : (0 : Int) ≤ (z : Int) * 16 + x := by omega
      have uz4 : (z : Int) * 16 + x < 256 := by omega
      have uz5 : ((z : Int) * 16 + x).toNat = z * 16 + x := by omega
      cases hd : (H y x == H z x)
      · have hb : (H y x != H z x) = true := by simp [bne, hd]
        have hne : Pl.rowEq (H y) (H z) = false := by
          cases hr : Pl.rowEq (H y) (H z)
          · rfl
          · have := Pl.rowEq_iff.1 hr x hlt
            rw [this] at hd
            simp at hd
        go_wp2_with fail
        refine regionL (S := (fun w' => w'.cell? ⟨g, y * 16 + x, none⟩ = some (.bool (H y x)) ∧ w'.cell? ⟨g, z * 16 + x, none⟩ = some (.bool (H z x)))) (L := 15) (by kernel_rfl) ?_ (fun hHeld => ?_)
        · (((try dsimp only); (repeat' apply And.intro) <;> (first | (simp only [World.cell?_drew, *]; done) | (simp (disch := (first | omega | (simp; omega))) only [cell_far, cell_old, World.cell?_drew, *]; done))))
        refine takeL (i := 0) (oi := ?_) (v := ?_) ?_ (by kernel_rfl) (by kernel_rfl) (by kernel_rfl) (by kernel_rfl) ?_ (Or.inl ⟨?_, ?_⟩) (by assumption) ?_
        rotate_left 2
        · (simp only [List.getElem?_toArray, List.getElem?_cons_succ, List.getElem?_cons_zero]; rfl)
        · exact fun _ _ _ h => h
        · rfl
        · (intro w hSw; (try dsimp only at hSw); go_simp; (try with_reducible rfl))
        try simp only [Act.put, List.setIfInBounds_toArray, List.set_cons_zero, List.set_cons_succ]
        refine takeL (i := 1) (oi := ?_) (v := ?_) ?_ (by kernel_rfl) (by kernel_rfl) (by kernel_rfl) (by kernel_rfl) ?_ (Or.inl ⟨?_, ?_⟩) (by assumption) ?_
        rotate_left 2
        · (simp only [List.getElem?_toArray, List.getElem?_cons_succ, List.getElem?_cons_zero]; rfl)
        · exact fun _ _ _ h => h
        · rfl
        · (intro w hSw; (try dsimp only at hSw); go_simp; (try with_reducible rfl))
        try simp only [Act.put, List.setIfInBounds_toArray, List.set_cons_zero, List.set_cons_succ]
        refine takeL (i := 2) (oi := ?_) (v := ?_) ?_ (by kernel_rfl) (by kernel_rfl) (by kernel_rfl) (by kernel_rfl) ?_ (Or.inl ⟨?_, ?_⟩) (by assumption) ?_
        rotate_left 2
        · (simp only [List.getElem?_toArray, List.getElem?_cons_succ, List.getElem?_cons_zero]; rfl)
        · exact fun _ _ _ h => h
        · rfl
        · (intro w hSw; (try dsimp only at hSw); go_simp; (try with_reducible rfl))
        try simp only [Act.put, List.setIfInBounds_toArray, List.set_cons_zero, List.set_cons_succ]
        refine takeL (i := 3) (oi := ?_) (v := ?_) ?_ (by kernel_rfl) (by kernel_rfl) (by kernel_rfl) (by kernel_rfl) ?_ (Or.inl ⟨?_, ?_⟩) (by assumption) ?_
        rotate_left 2
        · (simp only [List.getElem?_toArray, List.getElem?_cons_succ, List.getElem?_cons_zero]; rfl)
        · exact fun _ _ _ h => h
        · rfl
        · (intro w hSw; (try dsimp only at hSw); go_simp; (try with_reducible rfl))
        try simp only [Act.put, List.setIfInBounds_toArray, List.set_cons_zero, List.set_cons_succ]
        refine takeL (i := 4) (oi := ?_) (v := ?_) ?_ (by kernel_rfl) (by kernel_rfl) (by kernel_rfl) (by kernel_rfl) ?_ (Or.inl ⟨?_, ?_⟩) (by assumption) ?_
        rotate_left 2
        · (simp only [List.getElem?_toArray, List.getElem?_cons_succ, List.getElem?_cons_zero]; rfl)
        · exact fun _ _ _ h => h
        · rfl
        · (intro w hSw; (try dsimp only at hSw); go_simp; (try with_reducible rfl))
        try simp only [Act.put, List.setIfInBounds_toArray, List.set_cons_zero, List.set_cons_succ]
        refine takeL (i := 5) (oi := ?_) (v := ?_) ?_ (by kernel_rfl) (by kernel_rfl) (by kernel_rfl) (by kernel_rfl) ?_ (Or.inl ⟨?_, ?_⟩) (by assumption) ?_
        rotate_left 2
        · (simp only [List.getElem?_toArray, List.getElem?_cons_succ, List.getElem?_cons_zero]; rfl)
        · exact fun _ _ _ h => h
        · rfl
        · (intro w hSw; (try dsimp only at hSw); go_simp; (try with_reducible rfl))
        try simp only [Act.put, List.setIfInBounds_toArray, List.set_cons_zero, List.set_cons_succ]
        refine takeL (i := 6) (oi := ?_) (v := ?_) ?_ (by kernel_rfl) (by kernel_rfl) (by kernel_rfl) (by kernel_rfl) ?_ (Or.inl ⟨?_, ?_⟩) (by assumption) ?_
        rotate_left 2
        · (simp only [List.getElem?_toArray, List.getElem?_cons_succ, List.getElem?_cons_zero]; rfl)
        · exact fun _ _ _ h => h
        · rfl
        · (intro w hSw; (try dsimp only at hSw); go_simp; (try with_reducible rfl))
        try simp only [Act.put, List.setIfInBounds_toArray, List.set_cons_zero, List.set_cons_succ]
        refine takeL (i := 7) (oi := ?_) (v := ?_) ?_ (by kernel_rfl) (by kernel_rfl) (by kernel_rfl) (by kernel_rfl) ?_ (Or.inl ⟨?_, ?_⟩) (by assumption) ?_
        rotate_left 2
        · (simp only [List.getElem?_toArray, List.getElem?_cons_succ, List.getElem?_cons_zero]; rfl)
        · exact fun _ _ _ h => h
        · rfl
        · (intro w hSw; (try dsimp only at hSw); go_simp; (try with_reducible rfl))
        try simp only [Act.put, List.setIfInBounds_toArray, List.set_cons_zero, List.set_cons_succ]
        refine takeL (i := 8) (oi := ?_) (v := ?_) ?_ (by kernel_rfl) (by kernel_rfl) (by kernel_rfl) (by kernel_rfl) ?_ (Or.inl ⟨?_, ?_⟩) (by assumption) ?_
        rotate_left 2
        · (simp only [List.getElem?_toArray, List.getElem?_cons_succ, List.getElem?_cons_zero]; rfl)
        · exact fun _ _ _ h => h
        · rfl
        · (intro w hSw; (try dsimp only at hSw); go_simp; (try with_reducible rfl))
        try simp only [Act.put, List.setIfInBounds_toArray, List.set_cons_zero, List.set_cons_succ]
        refine takeL (i := 9) (oi := ?_) (v := ?_) ?_ (by kernel_rfl) (by kernel_rfl) (by kernel_rfl) (by kernel_rfl) ?_ (Or.inl ⟨?_, ?_⟩) (by assumption) ?_
        rotate_left 2
        · (simp only [List.getElem?_toArray, List.getElem?_cons_succ, List.getElem?_cons_zero]; rfl)
        · exact fun _ _ _ h => h
        · rfl
        · (intro w hSw; (try dsimp only at hSw); go_simp; (try with_reducible rfl))
        try simp only [Act.put, List.setIfInBounds_toArray, List.set_cons_zero, List.set_cons_succ]
        refine takeL (i := 10) (oi := ?_) (v := ?_) ?_ (by kernel_rfl) (by kernel_rfl) (by kernel_rfl) (by kernel_rfl) ?_ (Or.inl ⟨?_, ?_⟩) (by assumption) ?_
        rotate_left 2
        · (simp only [List.getElem?_toArray, List.getElem?_cons_succ, List.getElem?_cons_zero]; rfl)
        · exact fun _ _ _ h => h
        · rfl
        · (intro w hSw; (try dsimp only at hSw); go_simp; (try with_reducible rfl))
        try simp only [Act.put, List.setIfInBounds_toArray, List.set_cons_zero, List.set_cons_succ]
        refine takeL (i := 11) (oi := ?_) (v := ?_) ?_ (by kernel_rfl) (by kernel_rfl) (by kernel_rfl) (by kernel_rfl) ?_ (Or.inl ⟨?_, ?_⟩) (by assumption) ?_
        rotate_left 2
        · (simp only [List.getElem?_toArray, List.getElem?_cons_succ, List.getElem?_cons_zero]; rfl)
        · exact fun _ _ _ h => h
        · rfl
        · (intro w hSw; (try dsimp only at hSw); go_simp; (try with_reducible rfl))
        try simp only [Act.put, List.setIfInBounds_toArray, List.set_cons_zero, List.set_cons_succ]
        refine takeL (i := 12) (oi := ?_) (v := ?_) ?_ (by kernel_rfl) (by kernel_rfl) (by kernel_rfl) (by kernel_rfl) ?_ (Or.inl ⟨?_, ?_⟩) (by assumption) ?_
        rotate_left 2
        · (simp only [List.getElem?_toArray, List.getElem?_cons_succ, List.getElem?_cons_zero]; rfl)
        · exact fun _ _ _ h => h
        · rfl
        · (intro w hSw; (try dsimp only at hSw); go_simp; (try with_reducible rfl))
        try simp only [Act.put, List.setIfInBounds_toArray, List.set_cons_zero, List.set_cons_succ]
        refine takeL (i := 13) (oi := ?_) (v := ?_) ?_ (by kernel_rfl) (by kernel_rfl) (by kernel_rfl) (by kernel_rfl) ?_ (Or.inl ⟨?_, ?_⟩) (by assumption) ?_
        rotate_left 2
        · (simp only [List.getElem?_toArray, List.getElem?_cons_succ, List.getElem?_cons_zero]; rfl)
        · exact fun _ _ _ h => h
        · rfl
        · (intro w hSw; (try dsimp only at hSw); go_simp; (try with_reducible rfl))
        try simp only [Act.put, List.setIfInBounds_toArray, List.set_cons_zero, List.set_cons_succ]
        refine takeL (i := 14) (oi := ?_) (v := ?_) ?_ (by kernel_rfl) (by kernel_rfl) (by kernel_rfl) (by kernel_rfl) ?_ (Or.inl ⟨?_, ?_⟩) (by assumption) ?_
        rotate_left 2
        · (simp only [List.getElem?_toArray, List.getElem?_cons_succ, List.getElem?_cons_zero]; rfl)
        · exact fun _ _ _ h => h
        · rfl
        · (intro w hSw; (try dsimp only at hSw); go_simp; (try with_reducible rfl))
        try simp only [Act.put, List.setIfInBounds_toArray, List.set_cons_zero, List.set_cons_succ]
        refine doneL (by kernel_rfl) ?_ _
        go_wp2_with fail
        go_ret
        exact ⟨ret_bool hne.symm, Below.drew hB.out⟩
      · have hb : (H y x != H z x) = false := by simp [bne, hd]
        have he : Hid (H y x = H z x) := Lib.hid (by simpa using hd)
        go_wp2_with fail
        refine regionL (S := (fun w' => w'.cell? ⟨g, y * 16 + x, none⟩ = some (.bool (H y x)) ∧ w'.cell? ⟨g, z * 16 + x, none⟩ = some (.bool (H z x)))) (L := 15) (by kernel_rfl) ?_ (fun hHeld => ?_)
        · (((try dsimp only); (repeat' apply And.intro) <;> (first | (simp only [World.cell?_drew, *]; done) | (simp (disch := (first | omega | (simp; omega))) only [cell_far, cell_old, World.cell?_drew, *]; done))))
        refine takeL (i := 0) (oi := ?_) (v := ?_) ?_ (by kernel_rfl) (by kernel_rfl) (by kernel_rfl) (by kernel_rfl) ?_ (Or.inl ⟨?_, ?_⟩) (by assumption) ?_
        rotate_left 2
        · (simp only [List.getElem?_toArray, List.getElem?_cons_succ, List.getElem?_cons_zero]; rfl)
        · exact fun _ _ _ h => h
        · rfl
        · (intro w hSw; (try dsimp only at hSw); go_simp; (try with_reducible rfl))
        try simp only [Act.put, List.setIfInBounds_toArray, List.set_cons_zero, List.set_cons_succ]
        refine takeL (i := 1) (oi := ?_) (v := ?_) ?_ (by kernel_rfl) (by kernel_rfl) (by kernel_rfl) (by kernel_rfl) ?_ (Or.inl ⟨?_, ?_⟩) (by assumption) ?_
        rotate_left 2
        · (simp only [List.getElem?_toArray, List.getElem?_cons_succ, List.getElem?_cons_zero]; rfl)
        · exact fun _ _ _ h => h
        · rfl
        · (intro w hSw; (try dsimp only at hSw); go_simp; (try with_reducible rfl))
        try simp only [Act.put, List.setIfInBounds_toArray, List.set_cons_zero, List.set_cons_succ]
        refine takeL (i := 2) (oi := ?_) (v := ?_) ?_ (by kernel_rfl) (by kernel_rfl) (by kernel_rfl) (by kernel_rfl) ?_ (Or.inl ⟨?_, ?_⟩) (by assumption) ?_
        rotate_left 2
        · (simp only [List.getElem?_toArray, List.getElem?_cons_succ, List.getElem?_cons_zero]; rfl)
        · exact fun _ _ _ h => h
        · rfl
        · (intro w hSw; (try dsimp only at hSw); go_simp; (try with_reducible rfl))
        try simp only [Act.put, List.setIfInBounds_toArray, List.set_cons_zero, List.set_cons_succ]
        refine takeL (i := 3) (oi := ?_) (v := ?_) ?_ (by kernel_rfl) (by kernel_rfl) (by kernel_rfl) (by kernel_rfl) ?_ (Or.inl ⟨?_, ?_⟩) (by assumption) ?_
        rotate_left 2
        · (simp only [List.getElem?_toArray, List.getElem?_cons_succ, List.getElem?_cons_zero]; rfl)
        · exact fun _ _ _ h => h
        · rfl
        · (intro w hSw; (try dsimp only at hSw); go_simp; (try with_reducible rfl))
        try simp only [Act.put, List.setIfInBounds_toArray, List.set_cons_zero, List.set_cons_succ]
        refine takeL (i := 4) (oi := ?_) (v := ?_) ?_ (by kernel_rfl) (by kernel_rfl) (by kernel_rfl) (by kernel_rfl) ?_ (Or.inl ⟨?_, ?_⟩) (by assumption) ?_
        rotate_left 2
        · (simp only [List.getElem?_toArray, List.getElem?_cons_succ, List.getElem?_cons_zero]; rfl)
        · exact fun _ _ _ h => h
        · rfl
        · (intro w hSw; (try dsimp only at hSw); go_simp; (try with_reducible rfl))
        try simp only [Act.put, List.setIfInBounds_toArray, List.set_cons_zero, List.set_cons_succ]
        refine takeL (i := 5) (oi := ?_) (v := ?_) ?_ (by kernel_rfl) (by kernel_rfl) (by kernel_rfl) (by kernel_rfl) ?_ (Or.inl ⟨?_, ?_⟩) (by assumption) ?_
        rotate_left 2
        · (simp only [List.getElem?_toArray, List.getElem?_cons_succ, List.getElem?_cons_zero]; rfl)
        · exact fun _ _ _ h => h
        · rfl
        · (intro w hSw; (try dsimp only at hSw); go_simp; (try with_reducible rfl))
        try simp only [Act.put, List.setIfInBounds_toArray, List.set_cons_zero, List.set_cons_succ]
        refine takeL (i := 6) (oi := ?_) (v := ?_) ?_ (by kernel_rfl) (by kernel_rfl) (by kernel_rfl) (by kernel_rfl) ?_ (Or.inl ⟨?_, ?_⟩) (by assumption) ?_
        rotate_left 2
        · (simp only [List.getElem?_toArray, List.getElem?_cons_succ, List.getElem?_cons_zero]; rfl)
        · exact fun _ _ _ h => h
        · rfl
        · (intro w hSw; (try dsimp only at hSw); go_simp; (try with_reducible rfl))
        try simp only [Act.put, List.setIfInBounds_toArray, List.set_cons_zero, List.set_cons_succ]
        refine takeL (i := 7) (oi := ?_) (v := ?_) ?_ (by kernel_rfl) (by kernel_rfl) (by kernel_rfl) (by kernel_rfl) ?_ (Or.inl ⟨?_, ?_⟩) (by assumption) ?_
        rotate_left 2
        · (simp only [List.getElem?_toArray, List.getElem?_cons_succ, List.getElem?_cons_zero]; rfl)
        · exact fun _ _ _ h => h
        · rfl
        · (intro w hSw; (try dsimp only at hSw); go_simp; (try with_reducible rfl))
        try simp only [Act.put, List.setIfInBounds_toArray, List.set_cons_zero, List.set_cons_succ]
        refine takeL (i := 8) (oi := ?_) (v := ?_) ?_ (by kernel_rfl) (by kernel_rfl) (by kernel_rfl) (by kernel_rfl) ?_ (Or.inl ⟨?_, ?_⟩) (by assumption) ?_
        rotate_left 2
        · (simp only [List.getElem?_toArray, List.getElem?_cons_succ, List.getElem?_cons_zero]; rfl)
        · exact fun _ _ _ h => h
        · rfl
        · (intro w hSw; (try dsimp only at hSw); go_simp; (try with_reducible rfl))
        try simp only [Act.put, List.setIfInBounds_toArray, List.set_cons_zero, List.set_cons_succ]
        refine takeL (i := 9) (oi := ?_) (v := ?_) ?_ (by kernel_rfl) (by kernel_rfl) (by kernel_rfl) (by kernel_rfl) ?_ (Or.inl ⟨?_, ?_⟩) (by assumption) ?_
        rotate_left 2
        · (simp only [List.getElem?_toArray, List.getElem?_cons_succ, List.getElem?_cons_zero]; rfl)
        · exact fun _ _ _ h => h
        · rfl
        · (intro w hSw; (try dsimp only at hSw); go_simp; (try with_reducible rfl))
        try simp only [Act.put, List.setIfInBounds_toArray, List.set_cons_zero, List.set_cons_succ]
        refine takeL (i := 10) (oi := ?_) (v := ?_) ?_ (by kernel_rfl) (by kernel_rfl) (by kernel_rfl) (by kernel_rfl) ?_ (Or.inl ⟨?_, ?_⟩) (by assumption) ?_
        rotate_left 2
        · (simp only [List.getElem?_toArray, List.getElem?_cons_succ, List.getElem?_cons_zero]; rfl)
        · exact fun _ _ _ h => h
        · rfl
        · (intro w hSw; (try dsimp only at hSw); go_simp; (try with_reducible rfl))
        try simp only [Act.put, List.setIfInBounds_toArray, List.set_cons_zero, List.set_cons_succ]
        refine takeL (i := 11) (oi := ?_) (v := ?_) ?_ (by kernel_rfl) (by kernel_rfl) (by kernel_rfl) (by kernel_rfl) ?_ (Or.inl ⟨?_, ?_⟩) (by assumption) ?_
        rotate_left 2
        · (simp only [List.getElem?_toArray, List.getElem?_cons_succ, List.getElem?_cons_zero]; rfl)
        · exact fun _ _ _ h => h
        · rfl
        · (intro w hSw; (try dsimp only at hSw); go_simp; (try with_reducible rfl))
        try simp only [Act.put, List.setIfInBounds_toArray, List.set_cons_zero, List.set_cons_succ]
        refine takeL (i := 12) (oi := ?_) (v := ?_) ?_ (by kernel_rfl) (by kernel_rfl) (by kernel_rfl) (by kernel_rfl) ?_ (Or.inl ⟨?_, ?_⟩) (by assumption) ?_
        rotate_left 2
        · (simp only [List.getElem?_toArray, List.getElem?_cons_succ, List.getElem?_cons_zero]; rfl)
        · exact fun _ _ _ h => h
        · rfl
        · (intro w hSw; (try dsimp only at hSw); go_simp; (try with_reducible rfl))
        try simp only [Act.put, List.setIfInBounds_toArray, List.set_cons_zero, List.set_cons_succ]
        refine takeL (i := 13) (oi := ?_) (v := ?_) ?_ (by kernel_rfl) (by kernel_rfl) (by kernel_rfl) (by kernel_rfl) ?_ (Or.inl ⟨?_, ?_⟩) (by assumption) ?_
        rotate_left 2
        · (simp only [List.getElem?_toArray, List.getElem?_cons_succ, List.getElem?_cons_zero]; rfl)
        · exact fun _ _ _ h => h
        · rfl
        · (intro w hSw; (try dsimp only at hSw); go_simp; (try with_reducible rfl))
        try simp only [Act.put, List.setIfInBounds_toArray, List.set_cons_zero, List.set_cons_succ]
        refine takeL (i := 14) (oi := ?_) (v := ?_) ?_ (by kernel_rfl) (by kernel_rfl) (by kernel_rfl) (by kernel_rfl) ?_ (Or.inl ⟨?_, ?_⟩) (by assumption) ?_
        rotate_left 2
        · (simp only [List.getElem?_toArray, List.getElem?_cons_succ, List.getElem?_cons_zero]; rfl)
        · exact fun _ _ _ h => h
        · rfl
        · (intro w hSw; (try dsimp only at hSw); go_simp; (try with_reducible rfl))
        try simp only [Act.put, List.setIfInBounds_toArray, List.set_cons_zero, List.set_cons_succ]
        refine doneL (by kernel_rfl) ?_ _
        go_wp2_with fail
        go_roundw
        case rel => exact ⟨x + 1, by omega, by go_num, fun i hi => by
          by_cases e : i = x
          · rw [e]; exact he.out
          · exact HQ.out i (by omega), Lib.hid (Below.drew hB.out)⟩
        case measure => simp [intOf]; omega
    · have hr : Pl.rowEq (H y) (H z) = true := Pl.rowEq_iff.2 fun i hi => HQ.out i (by omega)
      go_wp2_with fail
      go_ret
      exact ⟨ret_bool hr.symm, hB.out⟩
set_option maxRecDepth 100000 in
set_option maxHeartbeats 4000000 in
theorem l03Canon_any (A : Option Addr) (c lo hi : Nat) (H : Nat → Nat → Bool) (w : World) (HB : Bls w lo hi (.slice A 256 c) (Pl.flat H)) : Calls Try.prog 30 #[.slice A 256 c] w (NewReg (Pl.canon H) w) := by
  have HS := Lib.hid HB
  clear HB
  obtain ⟨i0, hi0, hz0', hz1, hz2⟩ := info_parts Try.infoRect
  go_enter Try.func30, Try.ntmps30
  go_wp2_with fail
  go_loopw [4] (fun sy wr => ∃ (y : Nat) (d : List Pl.R) (v : Value), y ≤ 16 ∧ sy = .int .i64 y ∧ Hid (Pl.canonFrom H 0 = d ++ Pl.canonFrom H y) ∧ Hid (VB wr w.heap.size [.slice none 0 0]) ∧ Hid (RAcc wr (w.heap.size + 2) (w.heap.size + 1) d v) ∧ Hid (Below w.heap.size w wr)) (fun sy _ => 16 - (intOf sy).toNat)
  case atStart =>
    refine ⟨0, [], .slice none 0 0, by omega, rfl, Lib.hid rfl, Lib.hid (VB.alloc (VB.new (cs := [.slice none 0 0]) rfl) _), Lib.hid ⟨VB.new (cs := [.slice none 0 0]) (by simp), World.ownsRow_nil _ _ _ _, by omega, by simp⟩, Lib.hid (by go_grown)⟩
  case round =>
    obtain ⟨wo, rfl⟩ : ∃ wo : World, wo = wr := ⟨_, rfl⟩
    obtain ⟨y, d, v, hy, rfl, hd, hR, hA, hB⟩ := hrel
    by_cases hlt : y < 16
    · have yp0 : (0 : Int) ≤ (y : Int) := Int.natCast_nonneg _
      have yp1 : (y : Int) < 16 := by omega
      go_upto_block 2 with fail
      go_cut [5] from 11 to 24 (fun sh wx => ∃ h : Nat, 1 ≤ h ∧ y + h ≤ 16 ∧ sh = .int .i64 h ∧ Hid (Pl.band H y 1 = h) ∧ Hid (Below wo.heap.size wo wx))
      case first =>
        go_wp2_with fail
        go_loopw [5] (fun sh wr => ∃ h : Nat, 1 ≤ h ∧ y + h ≤ 16 ∧ sh = .int .i64 h ∧ Hid (Pl.band H y 1 = Pl.band H y h) ∧ Hid (Below wo.heap.size wo wr)) (fun sh _ => 16 - y - (intOf sh).toNat)
        case atStart => exact ⟨1, Nat.le_refl _, by omega, rfl, Lib.hid rfl, Lib.hid (Below.refl _ _)⟩
        case round =>
          obtain ⟨h, hh0, hh, rfl, hb, hBo⟩ := hrel
          have HS5 := Lib.hid (HS.out.step (later hB.out hBo.out))
          have hp0 : (0 : Int) ≤ (h : Int) := Int.natCast_nonneg _
          have u1 : IntKind.i64.wrap ((y : Int) + h) = (y : Int) + h := IntWalk.i64_in _ ⟨by omega, by omega⟩
          by_cases hel : y + h < 16
          · have ep1 : (y : Int) + h < 16 := by omega
            cases hre : Pl.rowEq (H y) (H (y + h))
            · have hend : Hid (Pl.band H y 1 = h) := Lib.hid (by
                rw [hb.out]
                refine Pl.band_end fun h' => ?_
                rw [hre] at h'
                cases h'.2)
              go_wp2_with (go_at_call 61; ((with_reducible refine (l03Row_any _ _ _ _ H y (y + h) hlt hel _ HS5.out _ (Int.natCast_add y h).symm).mono ?_)); rw [hre]; rintro e w9 ⟨rfl, B9⟩)
              go_meet
              case rel => exact ⟨h, hh0, hh, rfl, hend, Lib.hid (hBo.out.trans (B9.mono hBo.out.size))⟩
            · go_wp2_with (go_at_call 61; ((with_reducible refine (l03Row_any _ _ _ _ H y (y + h) hlt hel _ HS5.out _ (Int.natCast_add y h).symm).mono ?_)); rw [hre]; rintro e w9 ⟨rfl, B9⟩)
              go_roundw
              case rel => exact ⟨h + 1, by omega, by omega, by go_num, Lib.hid (by rw [hb.out]; exact Pl.band_step hel hre), Lib.hid (hBo.out.trans (B9.mono hBo.out.size))⟩
              case measure => simp [intOf]; omega
          · have ep1 : ¬ ((y : Int) + h < 16) := by omega
            have ep2 : decide ((y : Int) + h < 16) = false := decide_eq_false ep1
            have hend : Hid (Pl.band H y 1 = h) := Lib.hid (by
              rw [hb.out]
              exact Pl.band_end fun h => by omega)
            go_wp2_with fail
            go_meet
            case rel => exact ⟨h, hh0, hh, rfl, hend, hBo⟩
      case rest =>
        obtain ⟨h, hh0, hh, rfl, hb, hBo⟩ := hcut
        have hR1 := Lib.hid (hR.out.step hBo.out)
        have hA1 := Lib.hid (hA.out.step hBo.out)
        have hB1 := Lib.hid (later hB.out hBo.out)
        have hds : Hid (Pl.canonFrom H 0 = d ++ (Pl.rowRects (H y) 0 y h ++ Pl.canonFrom H (y + h))) := Lib.hid (by rw [hd.out, Pl.canonFrom_step hlt hb.out])
        clear hR hA hB hd
        go_wp2_with fail
        go_loopw [6] (fun sx wr => ∃ (x : Nat) (d1 : List Pl.R) (v1 : Value), x ≤ 17 ∧ sx = .int .i64 x ∧ Hid (d ++ (Pl.rowRects (H y) 0 y h ++ Pl.canonFrom H (y + h)) = d1 ++ (Pl.rowRects (H y) x y h ++ Pl.canonFrom H (y + h))) ∧ Hid (VB wr w.heap.size [.slice none 0 0]) ∧ Hid (RAcc wr (w.heap.size + 2) (w.heap.size + 1) d1 v1) ∧ Hid (Below w.heap.size w wr)) (fun sx _ => 17 - (intOf sx).toNat)
        case atStart => exact ⟨0, d, v, by omega, rfl, Lib.hid rfl, hR1, hA1, hB1⟩
        case round =>
          obtain ⟨wi, rfl⟩ : ∃ wi : World, wi = wr := ⟨_, rfl⟩
          obtain ⟨x, d1, v1, hx, rfl, hd1, hR, hA, hB⟩ := hrel
          have xp0 : (0 : Int) ≤ (x : Int) := Int.natCast_nonneg _
          by_cases hxl : x < 16
          · have xp1 : (x : Int) < 16 := by omega
            go_upto_block 6 with fail
            go_cut [7] from 27 to 43 (fun sn wx => ∃ n : Nat, x + n ≤ 16 ∧ sn = .int .i64 n ∧ Hid (Pl.runLen (H y) x = n) ∧ Hid (Below wi.heap.size wi wx))
            case first =>
              go_wp2_with fail
              go_loopw [7] (fun sn wr => ∃ n : Nat, x + n ≤ 16 ∧ sn = .int .i64 n ∧ Hid (Pl.runLen (H y) x = n + Pl.runLen (H y) (x + n)) ∧ Hid (Below wi.heap.size wi wr)) (fun sn _ => 16 - x - (intOf sn).toNat)
              case atStart => exact ⟨0, by omega, rfl, Lib.hid (by simp), Lib.hid (Below.refl _ _)⟩
              case round =>
                obtain ⟨n, hn, rfl, hrl, hBi⟩ := hrel
                have np0 : (0 : Int) ≤ (n : Int) := Int.natCast_nonneg _
                by_cases hzl : x + n < 16
                · have zp1 : (x : Int) + n < 16 := by omega
                  obtain ⟨g, rfl, lg, hg, lgs, cg0, _⟩ := (HS.out.step (later hB.out hBi.out)).flatAt hlt hzl
                  have cg : wr.cell? ⟨g, y * 16 + x + n, none⟩ = some (.bool (H y (x + n))) := by rw [Nat.add_assoc]; exact cg0
                  clear cg0
                  cases hgz : H y (x + n)
                  · rw [hgz] at cg
                    have hend : Hid (Pl.runLen (H y) x = n) := Lib.hid (by rw [hrl.out, Pl.runLen_zero (fun h => by rw [hgz] at h; cases h.2)]; rfl)
                    go_wp2_with fail
                    go_meet
                    case rel => exact ⟨n, hn, rfl, hend, hBi⟩
                  · rw [hgz] at cg
                    go_wp2_with fail
                    go_roundw
                    case rel => exact ⟨n + 1, by omega, by go_num, Lib.hid (by rw [hrl.out, Pl.runLen_step hzl hgz, show x + n + 1 = x + (n + 1) by omega]; omega), hBi⟩
                    case measure => simp [intOf]; omega
                · have hend : Hid (Pl.runLen (H y) x = n) := Lib.hid (by rw [hrl.out, Pl.runLen_zero (fun h => by omega)]; rfl)
                  have zp2 : ¬ ((x : Int) + n < 16) := by omega
                  go_wp2_with fail
                  go_meet
                  case rel => exact ⟨n, hn, rfl, hend, hBi⟩
            case rest =>
              obtain ⟨n, hn, rfl, hrl, hBi⟩ := hcut
              have hR1 := Lib.hid (hR.out.step hBi.out)
              have hA1 := Lib.hid (hA.out.step hBi.out)
              have hB1 := Lib.hid (later hB.out hBi.out)
              clear hR hA hB
              by_cases hzx : n = 0
              · subst hzx
                go_wp2_with fail
                go_roundw
                case rel => exact ⟨x + 1, d1, v1, by omega, by go_num, Lib.hid (by rw [hd1.out, Pl.rowRects_none hxl hrl.out]), hR1, hA1, hB1⟩
                case measure => simp [intOf]; omega
              · have hgt : (0 : Int) < n := by omega
                have hlen : d1.length ≤ 256 := by
                  have h1 := Pl.canonFrom_length H 0
                  rw [hds.out, hd1.out, List.length_append] at h1
                  omega
                obtain ⟨lb, cb, fb⟩ := hA1.out.1.open1
                go_wp2_with (refine wpList_append_lies _ rfl _ _ 26 rfl (w.heap.size + 2) 50 i0 (.agg #[.int .i64 0, .int .i64 0, .int .i64 0, .int .i64 0]) 4 32 Try.underlying26 hi0 hz0' hz1 hz2 rfl (by decide) v1 d1.length _ rfl ((Own.alloc (Own.of_row hA1.out.2.1) _).1) ⟨wc.heap.size, 0, none⟩ 1 1 (rc ⟨x, y, n, h⟩) rfl rfl (World.news_of_block (heap_alloc_new _ _)) (rcells_one [⟨x, y, n, h⟩]) (by omega) (by unfold maxLen; omega) (by omega) (by have := hA1.out.2.2.2; simp; omega) _ rfl ?_; intro gg cap w2 hown2 hgrow2 hat2 hlt7; have ⟨lw2, vb2⟩ := hA1.out.after (by go_grown) hgrow2; have P2 := Lib.hid (hA1.out.push (by go_grown) hgrow2 hown2); have lw3 := Lib.hid lw2; have hv2 := Lib.hid vb2; obtain ⟨lb2, cb2, fb2⟩ := vb2.open1; clear hown2 hgrow2 hat2 lw2 vb2)
                go_roundw
                case rel =>
                  refine ⟨x + n + 1, d1 ++ [⟨x, y, n, h⟩], _, by omega, by go_num, Lib.hid ?_, Lib.hid ((hR1.out.below lw3.out (by omega)).far _ _ (by show w.heap.size ≠ w.heap.size + 1; omega)), P2, Lib.hid (((hB1.out.trans (lw3.out.mono (by omega)))).setCell (by simp) _)⟩
                  rw [hd1.out, Pl.rowRects_some hxl hrl.out hzx]
                  simp
                case measure => simp [intOf]; omega
          · go_wp2_with fail
            go_roundw
            case rel =>
              refine ⟨y + h, d1, v1, hh, by go_num, Lib.hid ?_, hR, hA, hB⟩
              rw [hds.out, hd1.out, Pl.rowRects_out (by omega)]
              rfl
            case measure => simp [intOf]; omega
    · obtain rfl : y = 16 := by omega
      have hC : Pl.canon H = d := by
        have := hd.out
        rw [Pl.canonFrom_out (Nat.le_refl _), List.append_nil] at this
        exact this
      obtain ⟨A', cap, rfl, _, _⟩ := Own.shape (Own.of_row hA.out.2.1)
      obtain ⟨la, ca, fa⟩ := hA.out.1.open1
      obtain ⟨lr, cr, fr⟩ := hR.out.open1
      go_wp2_with fail
      rw [hC]
      refine bodyPost_ret (v := .agg #[.slice A' d.length cap]) (by simp [results, Try.results30, go_sem, cr]) rfl ⟨A', cap, rfl, ?_, hB.out.setCell (by simp) _⟩
      have h1 := (Own.of_row hA.out.2.1).far (p := ⟨w.heap.size, 0, none⟩) (by left; show w.heap.size < w.heap.size + 2; omega) (.slice A' d.length cap)
      exact Own.mono h1 (by omega) (by simp [World.setCell]) (Nat.le_refl _)
end Go.Proofs.Ytmjjepgnciibcaa
