/- Words for slices of Booleans, and the screen as such a slice. -/
import Derived.Test.YtmjjepgnciibcaaRAcc
namespace Go.Proofs.Ytmjjepgnciibcaa
open Go.RowKit
set_option linter.unusedVariables false
namespace Pl
/-- The screen, row by row. -/
def flat (H : Nat → Nat → Bool) : List Bool := (List.range 256).map fun i => H (i / 16) (i % 16)
theorem flat_length (H : Nat → Nat → Bool) : (flat H).length = 256 := by simp [flat]
theorem flat_get {H : Nat → Nat → Bool} {i : Nat} (h : i < 256) : (flat H)[i]? = some (H (i / 16) (i % 16)) := by simp [flat, h]
theorem flat_at {H : Nat → Nat → Bool} {y x : Nat} (hy : y < 16) (hx : x < 16) : (flat H)[y * 16 + x]? = some (H y x) := by
  rw [flat_get (by omega), show (y * 16 + x) / 16 = y by omega, show (y * 16 + x) % 16 = x by omega]
theorem flat_congr {H K : Nat → Nat → Bool} (h : ∀ y, y < 16 → ∀ x, x < 16 → H y x = K y x) : flat H = flat K := by
  unfold flat
  refine List.map_congr_left fun i hi => ?_
  rw [List.mem_range] at hi
  exact h _ (by omega) _ (by omega)
theorem flat_set (H : Nat → Nat → Bool) {y x : Nat} (hy : y < 16) (hx : x < 16) (v : Bool) : (flat H).set (y * 16 + x) v = flat (fun j i => if j = y ∧ i = x then v else H j i) := by
  refine List.ext_getElem? fun i => ?_
  by_cases hi : i < 256
  · rw [flat_get hi, List.getElem?_set, flat_length, flat_get hi]
    by_cases e : y * 16 + x = i
    · rw [if_pos e, if_pos (by omega), if_pos (by omega)]
    · rw [if_neg e, if_neg (by omega)]
  · rw [List.getElem?_eq_none (by rw [List.length_set, flat_length]; omega), List.getElem?_eq_none (by rw [flat_length]; omega)]
theorem flat_none : flat (fun _ _ => false) = List.replicate 256 false := by
  unfold flat
  rw [List.eq_replicate_iff]
  exact ⟨by simp, fun b hb => by obtain ⟨_, _, rfl⟩ := List.mem_map.1 hb; rfl⟩
end Pl
/-- Booleans, in memory that the program itself made. -/
def Bls (w : World) (lo hi : Nat) (v : Value) (zs : List Bool) : Prop := Own w lo hi 4 1 v zs.length (zs.map Value.bool)
section
variable {w w' : World} {lo hi : Nat} {v : Value} {zs : List Bool}
theorem Bls.len_eq {A : Option Addr} {n cap : Nat} (h : Bls w lo hi (.slice A n cap) zs) : zs.length = n := by
  obtain ⟨_, _, e, _⟩ := Own.shape h
  injection e with _ e2 _
  exact e2.symm
theorem Bls.at_ {A : Option Addr} {n cap k : Nat} (h : Bls w lo hi (.slice A n cap) zs) (hk : k < n) : ∃ g z, A = some ⟨g, 0, none⟩ ∧ lo ≤ g ∧ g < hi ∧ g < w.heap.size ∧ zs[k]? = some z ∧ w.cell? ⟨g, k, none⟩ = some (.bool z) ∧ w.frozen? ⟨g, k, none⟩ = false := by
  have e := h.len_eq
  subst e
  obtain ⟨g, rfl, h1, h2, h3, h4⟩ := Own.at_ h (by omega)
  refine ⟨g, zs[k], rfl, h1, h2, Nat.lt_of_lt_of_le h2 h.2.2, List.getElem?_eq_getElem hk, ?_, h4 k⟩
  rw [h3 k (by omega), List.getElem?_map, List.getElem?_eq_getElem hk]
  rfl
theorem Bls.stored {g n cap : Nat} (h : Bls w lo hi (.slice (some ⟨g, 0, none⟩) n cap) zs) (j : Nat) (z : Bool) : Bls (w.setCell ⟨g, j, none⟩ (.bool z)) lo hi (.slice (some ⟨g, 0, none⟩) n cap) (zs.set j z) := by
  have e := h.len_eq
  subst e
  have := Own.stored h j (.bool z)
  unfold Bls
  rw [List.map_set, List.length_set]
  exact this
theorem Bls.below {B : Nat} (h : Bls w lo hi v zs) (hb : Below B w w') (hB : hi ≤ B) : Bls w' lo hi v zs := Own.below h hb hB
theorem Bls.out {lo' hi' : Nat} (h : Bls w lo hi v zs) (hb : Out lo' hi' w w') (hB : hi ≤ lo' ∨ hi' ≤ lo) : Bls w' lo hi v zs := Own.out h hb hB
theorem Bls.step (h : Bls w lo hi v zs) (hb : Below w.heap.size w w') : Bls w' lo hi v zs := Own.below h hb h.2.2
theorem Bls.alloc (h : Bls w lo hi v zs) (o : Obj) : Bls (w.alloc o) lo hi v zs := Own.alloc h o
theorem Bls.drew (h : Bls w lo hi v zs) : Bls w.drew lo hi v zs := h
theorem Bls.hi_le (h : Bls w lo hi v zs) : hi ≤ w.heap.size := h.2.2
theorem Bls.flatAt {A : Option Addr} {cap y x : Nat} {H : Nat → Nat → Bool} (h : Bls w lo hi (.slice A 256 cap) (Pl.flat H)) (hy : y < 16) (hx : x < 16) : ∃ g, A = some ⟨g, 0, none⟩ ∧ lo ≤ g ∧ g < hi ∧ g < w.heap.size ∧ w.cell? ⟨g, y * 16 + x, none⟩ = some (.bool (H y x)) ∧ w.frozen? ⟨g, y * 16 + x, none⟩ = false := by
  obtain ⟨g, z, h1, h2, h3, h4, h5, h6, h7⟩ := h.at_ (k := y * 16 + x) (by omega)
  rw [Pl.flat_at hy hx] at h5
  injection h5 with h5
  subst h5
  exact ⟨g, h1, h2, h3, h4, h6, h7⟩
end
/-- A new screen. -/
def NewScr (H : Nat → Nat → Bool) (w : World) (e : Ending) (w' : World) : Prop := ∃ A c, e = .returned (.slice A 256 c) ∧ Bls w' w.heap.size w'.heap.size (.slice A 256 c) (Pl.flat H) ∧ Below w.heap.size w w'
end Go.Proofs.Ytmjjepgnciibcaa
