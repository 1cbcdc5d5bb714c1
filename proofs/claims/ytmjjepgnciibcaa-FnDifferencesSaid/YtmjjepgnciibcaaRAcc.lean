/- A region that is being built: its variable's block, its row that grows. Plain: how the canonical form is found. -/
import Derived.Test.YtmjjepgnciibcaaRecs3
import Derived.Test.YtmjjepgnciibcaaGridOf
import Derived.Deep.AppendLies
namespace Go.Proofs.Ytmjjepgnciibcaa
open Go.RowKit
set_option linter.unusedVariables false
namespace Pl
theorem runs_step {f : Nat → Bool} {x : Nat} (h : x < 16) : runs f x = (if runLen f x = 0 then [] else [(x, runLen f x)]) ++ runs f (x + runLen f x + 1) := by rw [runs, if_pos h]
theorem runs_out {f : Nat → Bool} {x : Nat} (h : 16 ≤ x) : runs f x = [] := by rw [runs, if_neg (by omega)]
theorem runLen_step {f : Nat → Bool} {x : Nat} (h : x < 16) (hf : f x = true) : runLen f x = runLen f (x + 1) + 1 := by rw [runLen, if_pos ⟨h, hf⟩]
theorem runLen_zero {f : Nat → Bool} {x : Nat} (h : ¬(x < 16 ∧ f x = true)) : runLen f x = 0 := by rw [runLen, if_neg h]
theorem band_step {G : Nat → Nat → Bool} {y h : Nat} (h1 : y + h < 16) (h2 : rowEq (G y) (G (y + h)) = true) : band G y h = band G y (h + 1) := by rw [band, if_pos ⟨h1, h2⟩]
theorem band_end {G : Nat → Nat → Bool} {y h : Nat} (h1 : ¬(y + h < 16 ∧ rowEq (G y) (G (y + h)) = true)) : band G y h = h := by rw [band, if_neg h1]
/-- The rectangles of the runs of a row. -/
def rowRects (f : Nat → Bool) (x y h : Nat) : List R := (runs f x).map (fun p => ⟨(p.1 : Int), (y : Int), (p.2 : Int), (h : Int)⟩)
theorem rowRects_some {f : Nat → Bool} {x y h n : Nat} (hx : x < 16) (hn : runLen f x = n) (h0 : n ≠ 0) : rowRects f x y h = [⟨x, y, n, h⟩] ++ rowRects f (x + n + 1) y h := by
  subst hn
  unfold rowRects
  rw [runs_step hx, if_neg h0]
  rfl
theorem rowRects_none {f : Nat → Bool} {x y h : Nat} (hx : x < 16) (hn : runLen f x = 0) : rowRects f x y h = rowRects f (x + 1) y h := by
  unfold rowRects
  rw [runs_step hx, if_pos hn, hn]
  rfl
theorem rowRects_out {f : Nat → Bool} {x y h : Nat} (hx : 16 ≤ x) : rowRects f x y h = [] := by unfold rowRects; rw [runs_out hx]; rfl
theorem canonFrom_step {G : Nat → Nat → Bool} {y h : Nat} (hy : y < 16) (hb : band G y 1 = h) : canonFrom G y = rowRects (G y) 0 y h ++ canonFrom G (y + h) := by
  subst hb
  rw [canonFrom, if_pos hy]
  rfl
theorem canonFrom_out {G : Nat → Nat → Bool} {y : Nat} (hy : 16 ≤ y) : canonFrom G y = [] := by rw [canonFrom, if_neg (by omega)]
theorem runs_length (f : Nat → Bool) (x : Nat) : (runs f x).length ≤ 16 - x := by
  induction x using runs.induct (f := f) with
  | case1 x hx ih =>
    rw [runs, if_pos hx, List.length_append]
    split <;> simp <;> omega
  | case2 x hx => rw [runs, if_neg hx]; simp
theorem canonFrom_length (G : Nat → Nat → Bool) (y : Nat) : (canonFrom G y).length ≤ 16 * (16 - y) := by
  induction y using canonFrom.induct (G := G) with
  | case1 y hy ih =>
    rw [canonFrom, if_pos hy, List.length_append, List.length_map]
    have := runs_length (G y) 0
    have := band_ge G y 1
    omega
  | case2 y hy => rw [canonFrom, if_neg hy]; simp
theorem canon_length (G : Nat → Nat → Bool) : (canon G).length ≤ 256 := canonFrom_length G 0
end Pl
/-- The region that is being built lies in block b; its row lies in blocks from lo on. -/
def RAcc (wr : World) (lo b : Nat) (d : List Pl.R) (v : Value) : Prop := VB wr b [v] ∧ wr.ownsRow lo 50 4 v d.length (rcells d) ∧ b < lo ∧ lo ≤ wr.heap.size
section
variable {wr wa w2 : World} {lo b : Nat} {d : List Pl.R} {v : Value}
theorem RAcc.after (h : RAcc wr lo b d v) (hb : Below wr.heap.size wr wa) (hg : wa.grownBy w2 v.ownBlock) : Below lo wr w2 ∧ VB w2 b [v] := by
  obtain ⟨h1, h2, h3, h4⟩ := h
  have hlo : Below lo wr w2 := ⟨hg.os.trans hb.os, hg.tape.trans hb.tape, hg.output.trans hb.output, Nat.le_trans hb.size hg.size, fun k hk' => (hg.block k (by have := hb.size; omega) (fun e => by have := h2.lt k e.symm; omega)).trans (hb.block k (by omega))⟩
  exact ⟨hlo, h1.below hlo h3⟩
theorem RAcc.push {gg cap : Nat} {r : Pl.R} (h : RAcc wr lo b d v) (hb : Below wr.heap.size wr wa) (hg : wa.grownBy w2 v.ownBlock)
    (hown : w2.ownsRow lo 50 4 (.slice (some ⟨gg, 0, none⟩) (d.length + 1) cap) (d.length + 1) (rcells d ++ rc r)) :
    RAcc (w2.setCell ⟨b, 0, none⟩ (.slice (some ⟨gg, 0, none⟩) (d.length + 1) cap)) lo b (d ++ [r]) (.slice (some ⟨gg, 0, none⟩) (d.length + 1) cap) := by
  obtain ⟨hlo, hv⟩ := h.after hb hg
  obtain ⟨h1, h2, h3, h4⟩ := h
  refine ⟨hv.set 0 _, ?_, h3, by have := hlo.size; simp [World.setCell]; omega⟩
  rw [List.length_append, rcells_append]
  refine ⟨by simpa [rcells, rc] using hown.1, ?_⟩
  rcases hown.2 with ⟨e, _⟩ | ⟨g', cap', cur, e, r1, r2, r3⟩
  · simp at e
  · refine .inr ⟨g', cap', cur, by simpa using e, r1, ?_, by simpa [rcells] using r3⟩
    rw [Below.heap_setCell _ _ _ _ (by show g' ≠ b; omega)]
    simpa [rcells] using r2
theorem RAcc.drew (h : RAcc wr lo b d v) : RAcc wr.drew lo b d v := h
/-- Nothing of it is touched by who writes above all blocks that are there. -/
theorem RAcc.step (h : RAcc wr lo b d v) (hb : Below wr.heap.size wr wa) : RAcc wa lo b d v := by
  obtain ⟨h1, h2, h3, h4⟩ := h
  exact ⟨h1.step hb, (Own.below (Own.of_row h2) hb (Nat.le_refl _)).1, h3, Nat.le_trans h4 hb.size⟩
/-- What is returned: the region's own rows. -/
theorem RAcc.recs (h : RAcc wr lo b d v) {B : Nat} (hB : B ≤ lo) : Recs wr B wr.heap.size v d := Own.mono (Own.of_row h.2.1) hB (Nat.le_refl _) (Nat.le_refl _)
end
end Go.Proofs.Ytmjjepgnciibcaa
