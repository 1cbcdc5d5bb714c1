/- Contracts: TileImage of the program. -/
import Derived.Test.YtmjjepgnciibcaaMap
namespace Go.Proofs.Ytmjjepgnciibcaa.Pl
theorem tab_len {w h : Int} (f : Nat → Nat → Int) (h1 : inB w 1 16 = true) (h2 : inB h 1 16 = true) : (tab w h f).length ≤ 256 := by
  have a := inB_t h1
  have b := inB_t h2
  have c := mul_bd (a := h) (b := w) (A := 16) (B := 16) (by omega) (by omega) (by omega) (by omega)
  unfold tab
  rw [tabTo_length]
  omega
theorem tile_len (i : Img) (x y : Int) : (tile i x y).d.length ≤ 256 := by
  unfold tile
  split
  · rename_i h
    simp only [Bool.and_eq_true] at h
    exact tab_len _ h.1.2 h.2
  · simp [Img.zero]
end Go.Proofs.Ytmjjepgnciibcaa.Pl
namespace Go.Proofs.Ytmjjepgnciibcaa
open Go.RowKit
set_option linter.unusedVariables false
end Go.Proofs.Ytmjjepgnciibcaa
