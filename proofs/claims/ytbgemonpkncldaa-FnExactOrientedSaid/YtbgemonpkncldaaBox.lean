/- Variables in memory: a struct's block, kept over calls. No program in sight. -/
import Derived.Test.YtbgemonpkncldaaOwn
namespace Go.Proofs.Ytbgemonpkncldaa
open Go.RowKit

/-- A variable's block begins with these cells. -/
def Box (w : World) (b : Nat) (cs : List Value) : Prop := b < w.heap.size ∧ ∀ o v, cs[o]? = some v → w.cell? ⟨b, o, none⟩ = some v
section
variable {w w' : World} {b B lo hi : Nat} {cs : List Value}
theorem Box.below (h : Box w b cs) (hb : Below B w w') (hB : b < B) : Box w' b cs := ⟨Nat.lt_of_lt_of_le h.1 hb.size, fun o v hv => (hb.cell (p := ⟨b, o, none⟩) hB).trans (h.2 o v hv)⟩
theorem Box.step (h : Box w b cs) (hb : Below w.heap.size w w') : Box w' b cs := h.below hb h.1
theorem Box.out (h : Box w b cs) (ho : Out lo hi w w') (hk : b < lo ∨ hi ≤ b) : Box w' b cs := ⟨Nat.lt_of_lt_of_le h.1 ho.size, fun o v hv => ((ho.keep b h.1 hk).1 o).trans (h.2 o v hv)⟩
theorem Box.of1 (hb : Below w.heap.size w w') (b : Nat) (h : b < w.heap.size) {v0 : Value} (h0 : w.cell? ⟨b, 0, none⟩ = some v0) : Box w' b [v0] :=
  ⟨Nat.lt_of_lt_of_le h hb.size, fun o v hv => (hb.cell (p := ⟨b, o, none⟩) h).trans (by
    match o, hv with
    | 0, hv => simp at hv; subst hv; exact h0)⟩
theorem Box.of2 (hb : Below w.heap.size w w') (b : Nat) (h : b < w.heap.size) {v0 v1 : Value} (h0 : w.cell? ⟨b, 0, none⟩ = some v0) (h1 : w.cell? ⟨b, 1, none⟩ = some v1) : Box w' b [v0, v1] :=
  ⟨Nat.lt_of_lt_of_le h hb.size, fun o v hv => (hb.cell (p := ⟨b, o, none⟩) h).trans (by
    match o, hv with
    | 0, hv => simp at hv; subst hv; exact h0
    | 1, hv => simp at hv; subst hv; exact h1)⟩
theorem Box.open2 {v0 v1 : Value} (h : Box w b [v0, v1]) : b < w.heap.size ∧ w.cell? ⟨b, 0, none⟩ = some v0 ∧ w.cell? ⟨b, 1, none⟩ = some v1 := ⟨h.1, h.2 0 _ rfl, h.2 1 _ rfl⟩
theorem Box.of3 (hb : Below w.heap.size w w') (b : Nat) (h : b < w.heap.size) {v0 v1 v2 : Value} (h0 : w.cell? ⟨b, 0, none⟩ = some v0) (h1 : w.cell? ⟨b, 1, none⟩ = some v1) (h2 : w.cell? ⟨b, 2, none⟩ = some v2) : Box w' b [v0, v1, v2] :=
  ⟨Nat.lt_of_lt_of_le h hb.size, fun o v hv => (hb.cell (p := ⟨b, o, none⟩) h).trans (by
    match o, hv with
    | 0, hv => simp at hv; subst hv; exact h0
    | 1, hv => simp at hv; subst hv; exact h1
    | 2, hv => simp at hv; subst hv; exact h2)⟩
theorem Box.of4 (hb : Below w.heap.size w w') (b : Nat) (h : b < w.heap.size) {v0 v1 v2 v3 : Value} (h0 : w.cell? ⟨b, 0, none⟩ = some v0) (h1 : w.cell? ⟨b, 1, none⟩ = some v1) (h2 : w.cell? ⟨b, 2, none⟩ = some v2) (h3 : w.cell? ⟨b, 3, none⟩ = some v3) : Box w' b [v0, v1, v2, v3] :=
  ⟨Nat.lt_of_lt_of_le h hb.size, fun o v hv => (hb.cell (p := ⟨b, o, none⟩) h).trans (by
    match o, hv with
    | 0, hv => simp at hv; subst hv; exact h0
    | 1, hv => simp at hv; subst hv; exact h1
    | 2, hv => simp at hv; subst hv; exact h2
    | 3, hv => simp at hv; subst hv; exact h3)⟩
theorem Box.open1 {v0 : Value} (h : Box w b [v0]) : b < w.heap.size ∧ w.cell? ⟨b, 0, none⟩ = some v0 := ⟨h.1, h.2 0 _ rfl⟩
theorem Box.open3 {v0 v1 v2 : Value} (h : Box w b [v0, v1, v2]) : b < w.heap.size ∧ w.cell? ⟨b, 0, none⟩ = some v0 ∧ w.cell? ⟨b, 1, none⟩ = some v1 ∧ w.cell? ⟨b, 2, none⟩ = some v2 := ⟨h.1, h.2 0 _ rfl, h.2 1 _ rfl, h.2 2 _ rfl⟩
theorem Box.open4 {v0 v1 v2 v3 : Value} (h : Box w b [v0, v1, v2, v3]) : b < w.heap.size ∧ w.cell? ⟨b, 0, none⟩ = some v0 ∧ w.cell? ⟨b, 1, none⟩ = some v1 ∧ w.cell? ⟨b, 2, none⟩ = some v2 ∧ w.cell? ⟨b, 3, none⟩ = some v3 := ⟨h.1, h.2 0 _ rfl, h.2 1 _ rfl, h.2 2 _ rfl, h.2 3 _ rfl⟩
theorem Own.step {e : TypeId} {size n : Nat} {v : Value} {xs : List Value} (h : Own w lo hi e size v n xs) (hb : Below w.heap.size w w') : Own w' lo hi e size v n xs := h.below hb h.2.2
theorem Ints.step {v : Value} {zs : List Int} (h : Ints w lo hi v zs) (hb : Below w.heap.size w w') : Ints w' lo hi v zs := Own.step h hb
end
end Go.Proofs.Ytbgemonpkncldaa
