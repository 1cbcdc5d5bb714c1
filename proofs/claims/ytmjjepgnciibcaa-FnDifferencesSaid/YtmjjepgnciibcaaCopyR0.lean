/- Plain: a region's pixels copied from one picture to another. No program in sight. -/
import Derived.Test.YtmjjepgnciibcaaDiff0
namespace Go.Proofs.Ytmjjepgnciibcaa.Pl
set_option linter.unusedVariables false
set_option linter.unusedSimpArgs false
/-- The picture d (of width W) where the points of P and G have been copied from s (of width V). -/
def copyK (W V : Nat) (G : Nat → Nat → Bool) (d s : List Int) (P : Nat → Nat → Bool) : List Int :=
  (List.range d.length).map fun k => if P (k / W) (k % W) && G (k / W) (k % W) then s.getD (k / W * V + k % W) 0 else d.getD k 0
theorem copyK_length (W V : Nat) (G : Nat → Nat → Bool) (d s : List Int) (P : Nat → Nat → Bool) : (copyK W V G d s P).length = d.length := by simp [copyK]
theorem copyK_get {W V : Nat} {G : Nat → Nat → Bool} {d s : List Int} {P : Nat → Nat → Bool} {k : Nat} (hk : k < d.length) : (copyK W V G d s P)[k]? = some (if P (k / W) (k % W) && G (k / W) (k % W) then s.getD (k / W * V + k % W) 0 else d.getD k 0) := by simp [copyK, hk]
theorem copyK_none (W V : Nat) (G : Nat → Nat → Bool) (d s : List Int) : copyK W V G d s (fun _ _ => false) = d := by
  refine List.ext_getElem? fun k => ?_
  by_cases hk : k < d.length
  · rw [copyK_get hk, List.getElem?_eq_getElem hk]
    simp [List.getD_eq_getElem?_getD, List.getElem?_eq_getElem hk]
  · rw [List.getElem?_eq_none (by rw [copyK_length]; omega), List.getElem?_eq_none (by omega)]
theorem copyK_congr {W V : Nat} {G G' : Nat → Nat → Bool} {d s : List Int} {P Q : Nat → Nat → Bool} (h : ∀ k, k < d.length → (P (k / W) (k % W) && G (k / W) (k % W)) = (Q (k / W) (k % W) && G' (k / W) (k % W))) : copyK W V G d s P = copyK W V G' d s Q := by
  refine List.ext_getElem? fun k => ?_
  by_cases hk : k < d.length
  · rw [copyK_get hk, copyK_get hk, h k hk]
  · rw [List.getElem?_eq_none (by rw [copyK_length]; omega), List.getElem?_eq_none (by rw [copyK_length]; omega)]
theorem place_div {W y x : Nat} (hx : x < W) : (y * W + x) / W = y ∧ (y * W + x) % W = x := by
  constructor
  · rw [Nat.add_comm, Nat.add_mul_div_right _ _ (by omega), Nat.div_eq_of_lt hx]; omega
  · rw [Nat.add_comm, Nat.add_mul_mod_self_right]; exact Nat.mod_eq_of_lt hx
theorem copyK_set {W V : Nat} {G : Nat → Nat → Bool} {d s : List Int} {P : Nat → Nat → Bool} {y x : Nat} (hx : x < W) (hl : y * W + x < d.length) (hg : G y x = true) :
    (copyK W V G d s P).set (y * W + x) (s.getD (y * V + x) 0) = copyK W V G d s (fun j i => P j i || decide (j = y ∧ i = x)) := by
  obtain ⟨e1, e2⟩ := place_div (y := y) hx
  refine List.ext_getElem? fun k => ?_
  by_cases hk : k < d.length
  · rw [copyK_get hk, List.getElem?_set, copyK_length]
    by_cases e : y * W + x = k
    · subst e
      rw [if_pos rfl, if_pos hl, e1, e2, hg]
      simp
    · rw [if_neg e, copyK_get hk]
      have hne : ¬ (k / W = y ∧ k % W = x) := by
        rintro ⟨h1, h2⟩
        apply e
        rw [← h1, ← h2]
        exact divmod_place (by omega)
      simp [hne]
  · rw [List.getElem?_eq_none (by rw [List.length_set, copyK_length]; omega), List.getElem?_eq_none (by rw [copyK_length]; omega)]
theorem copyK_skip {W V : Nat} {G : Nat → Nat → Bool} {d s : List Int} {P : Nat → Nat → Bool} {y x : Nat} (hg : G y x = false) : copyK W V G d s P = copyK W V G d s (fun j i => P j i || decide (j = y ∧ i = x)) := by
  refine copyK_congr fun k _ => ?_
  by_cases e : k / W = y ∧ k % W = x
  · rw [e.1, e.2, hg]; simp
  · simp [e]
/-- CopyRegion. -/
def copyRegion (i j : Img) (r : List R) : Img :=
  if imageOk i && imageOk j && regionOk r then ⟨i.w, i.h, copyK i.w.toNat j.w.toNat (gridL r) i.d j.d (fun y x => decide (y < min i.h.toNat j.h.toNat) && decide (x < min i.w.toNat j.w.toNat))⟩ else i
end Go.Proofs.Ytmjjepgnciibcaa.Pl
