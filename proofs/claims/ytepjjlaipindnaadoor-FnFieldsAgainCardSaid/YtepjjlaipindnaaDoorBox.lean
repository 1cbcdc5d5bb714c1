/- Variables in memory: a struct's block, kept over calls. No program in sight. -/
import Derived.Test.YtepjjlaipindnaaDoorOwn
namespace Go.Proofs.YtepjjlaipindnaaDoor
open Go.RowKit

/-- A variable's block begins with these cells. -/
def Box (w : World) (b : Nat) (cs : List Value) : Prop := b < w.heap.size ∧ ∀ o v, cs[o]? = some v → w.cell? ⟨b, o, none⟩ = some v
section
variable {w w' : World} {b B lo hi : Nat} {cs : List Value}
theorem Box.below (h : Box w b cs) (hb : Below B w w') (hB : b < B) : Box w' b cs := ⟨Nat.lt_of_lt_of_le h.1 hb.size, fun o v hv => (hb.cell (p := ⟨b, o, none⟩) hB).trans (h.2 o v hv)⟩
theorem Box.step (h : Box w b cs) (hb : Below w.heap.size w w') : Box w' b cs := h.below hb h.1
theorem Box.out (h : Box w b cs) (ho : Out lo hi w w') (hk : b < lo ∨ hi ≤ b) : Box w' b cs := ⟨Nat.lt_of_lt_of_le h.1 ho.size, fun o v hv => ((ho.keep b h.1 hk).1 o).trans (h.2 o v hv)⟩
theorem Box.of1 (hb : Below w.heap.size w w') (b : Nat) (h : b < w.heap.size) {v0 : Value} (h0 : w.cell? ⟨b, 0, none⟩ = some v0) : Box w' b [v0] :=
  ⟨Nat.lt_of_lt_of_le h hb.size, fun o v hv => (hb.cell (p := ⟨b, o, none⟩) h).trans (by
    match o, hv with
    | 0, hv => simp at hv; subst hv; exact h0)⟩
theorem Box.of2 (hb : Below w.heap.size w w') (b : Nat) (h : b < w.heap.size) {v0 v1 : Value} (h0 : w.cell? ⟨b, 0, none⟩ = some v0) (h1 : w.cell? ⟨b, 1, none⟩ = some v1) : Box w' b [v0, v1] :=
  ⟨Nat.lt_of_lt_of_le h hb.size, fun o v hv => (hb.cell (p := ⟨b, o, none⟩) h).trans (by
    match o, hv with
    | 0, hv => simp at hv; subst hv; exact h0
    | 1, hv => simp at hv; subst hv; exact h1)⟩
theorem Box.open2 {v0 v1 : Value} (h : Box w b [v0, v1]) : b < w.heap.size ∧ w.cell? ⟨b, 0, none⟩ = some v0 ∧ w.cell? ⟨b, 1, none⟩ = some v1 := ⟨h.1, h.2 0 _ rfl, h.2 1 _ rfl⟩
theorem Box.of3 (hb : Below w.heap.size w w') (b : Nat) (h : b < w.heap.size) {v0 v1 v2 : Value} (h0 : w.cell? ⟨b, 0, none⟩ = some v0) (h1 : w.cell? ⟨b, 1, none⟩ = some v1) (h2 : w.cell? ⟨b, 2, none⟩ = some v2) : Box w' b [v0, v1, v2] :=
  ⟨Nat.lt_of_lt_of_le h hb.size, fun o v hv => (hb.cell (p := ⟨b, o, none⟩) h).trans (by
    match o, hv with
    | 0, hv => simp at hv; subst hv; exact h0
    | 1, hv => simp at hv; subst hv; exact h1
    | 2, hv => simp at hv; subst hv; exact h2)⟩
theorem Box.of4 (hb : Below w.heap.size w w') (b : Nat) (h : b < w.heap.size) {v0 v1 v2 v3 : Value} (h0 : w.cell? ⟨b, 0, none⟩ = some v0) (h1 : w.cell? ⟨b, 1, none⟩ = some v1) (h2 : w.cell? ⟨b, 2, none⟩ = some v2) (h3 : w.cell? ⟨b, 3, none⟩ = some v3) : Box w' b [v0, v1, v2, v3] :=
  ⟨Nat.lt_of_lt_of_le h hb.size, fun o v hv => (hb.cell (p := ⟨b, o, none⟩) h).trans (by
    match o, hv with
    | 0, hv => simp at hv; subst hv; exact h0
    | 1, hv => simp at hv; subst hv; exact h1
    | 2, hv => simp at hv; subst hv; exact h2
    | 3, hv => simp at hv; subst hv; exact h3)⟩
theorem Box.set4 {u0 u1 u2 u3 v0 v1 v2 v3 : Value} (h0 : w.cell? ⟨b, 0, none⟩ = some u0) (h1 : w.cell? ⟨b, 1, none⟩ = some u1) (h2 : w.cell? ⟨b, 2, none⟩ = some u2) (h3 : w.cell? ⟨b, 3, none⟩ = some u3) :
    Box ((((w.setCell ⟨b, 0, none⟩ v0).setCell ⟨b, 1, none⟩ v1).setCell ⟨b, 2, none⟩ v2).setCell ⟨b, 3, none⟩ v3) b [v0, v1, v2, v3] := by
  have hlt : b < w.heap.size := World.block_lt_of_cell? w _ h0
  have ne : ∀ (i j : Nat), i ≠ j → (⟨b, i, none⟩ : Addr) ≠ ⟨b, j, none⟩ := fun i j h e => h (by injection e)
  refine ⟨by simpa [World.setCell] using hlt, fun o v hv => ?_⟩
  match o, hv with
  | 0, hv => simp at hv; subst hv; rw [World.cell?_setCell_other _ _ _ _ (ne 3 0 (by decide)), World.cell?_setCell_other _ _ _ _ (ne 2 0 (by decide)), World.cell?_setCell_other _ _ _ _ (ne 1 0 (by decide)), World.cell?_setCell_same _ _ _ h0]
  | 1, hv => simp at hv; subst hv; rw [World.cell?_setCell_other _ _ _ _ (ne 3 1 (by decide)), World.cell?_setCell_other _ _ _ _ (ne 2 1 (by decide)), World.cell?_setCell_same _ _ _ (u := u1)]; rw [World.cell?_setCell_other _ _ _ _ (ne 0 1 (by decide))]; exact h1
  | 2, hv => simp at hv; subst hv; rw [World.cell?_setCell_other _ _ _ _ (ne 3 2 (by decide)), World.cell?_setCell_same _ _ _ (u := u2)]; rw [World.cell?_setCell_other _ _ _ _ (ne 1 2 (by decide)), World.cell?_setCell_other _ _ _ _ (ne 0 2 (by decide))]; exact h2
  | 3, hv => simp at hv; subst hv; rw [World.cell?_setCell_same _ _ _ (u := u3)]; rw [World.cell?_setCell_other _ _ _ _ (ne 2 3 (by decide)), World.cell?_setCell_other _ _ _ _ (ne 1 3 (by decide)), World.cell?_setCell_other _ _ _ _ (ne 0 3 (by decide))]; exact h3
theorem Box.set3 {u0 u1 u2 v0 v1 v2 : Value} (h0 : w.cell? ⟨b, 0, none⟩ = some u0) (h1 : w.cell? ⟨b, 1, none⟩ = some u1) (h2 : w.cell? ⟨b, 2, none⟩ = some u2) :
    Box (((w.setCell ⟨b, 0, none⟩ v0).setCell ⟨b, 1, none⟩ v1).setCell ⟨b, 2, none⟩ v2) b [v0, v1, v2] := by
  have hlt : b < w.heap.size := World.block_lt_of_cell? w _ h0
  have ne : ∀ (i j : Nat), i ≠ j → (⟨b, i, none⟩ : Addr) ≠ ⟨b, j, none⟩ := fun i j h e => h (by injection e)
  refine ⟨by simpa [World.setCell] using hlt, fun o v hv => ?_⟩
  match o, hv with
  | 0, hv => simp at hv; subst hv; rw [World.cell?_setCell_other _ _ _ _ (ne 2 0 (by decide)), World.cell?_setCell_other _ _ _ _ (ne 1 0 (by decide)), World.cell?_setCell_same _ _ _ h0]
  | 1, hv => simp at hv; subst hv; rw [World.cell?_setCell_other _ _ _ _ (ne 2 1 (by decide)), World.cell?_setCell_same _ _ _ (u := u1)]; rw [World.cell?_setCell_other _ _ _ _ (ne 0 1 (by decide))]; exact h1
  | 2, hv => simp at hv; subst hv; rw [World.cell?_setCell_same _ _ _ (u := u2)]; rw [World.cell?_setCell_other _ _ _ _ (ne 1 2 (by decide)), World.cell?_setCell_other _ _ _ _ (ne 0 2 (by decide))]; exact h2
theorem Box.set1 {u0 v0 : Value} (h0 : w.cell? ⟨b, 0, none⟩ = some u0) : Box (w.setCell ⟨b, 0, none⟩ v0) b [v0] := by
  have hlt : b < w.heap.size := World.block_lt_of_cell? w _ h0
  refine ⟨by simpa [World.setCell] using hlt, fun o v hv => ?_⟩
  match o, hv with
  | 0, hv => simp at hv; subst hv; exact World.cell?_setCell_same _ _ _ h0
theorem Own.setc3 {e : TypeId} {size n : Nat} {v : Value} {xs : List Value} (h : Own w lo hi e size v n xs) (hp : b < lo ∨ hi ≤ b) (v0 v1 v2 : Value) : Own (((w.setCell ⟨b, 0, none⟩ v0).setCell ⟨b, 1, none⟩ v1).setCell ⟨b, 2, none⟩ v2) lo hi e size v n xs :=
  Own.far (Own.far (Own.far h hp v0) hp v1) hp v2
theorem Ints.setc3 {v : Value} {zs : List Int} (h : Ints w lo hi v zs) (hp : b < lo ∨ hi ≤ b) (v0 v1 v2 : Value) : Ints (((w.setCell ⟨b, 0, none⟩ v0).setCell ⟨b, 1, none⟩ v1).setCell ⟨b, 2, none⟩ v2) lo hi v zs := Own.setc3 h hp v0 v1 v2
theorem Ints.alloc {v : Value} {zs : List Int} (h : Ints w lo hi v zs) (o : Obj) : Ints (w.alloc o) lo hi v zs := Own.alloc h o
theorem Ints.drew {v : Value} {zs : List Int} (h : Ints w lo hi v zs) : Ints w.drew lo hi v zs := h
/-- A new variable that holds a header (its cells hang on the slice's address and capacity) and the slice's integers, made since world J. -/
def NewVar (J wx : World) (bk : Nat) (cs : Option Addr → Nat → List Value) (n : Nat) (d : List Int) : Prop :=
  ∃ (lo hi cc : Nat) (AA : Option Addr), J.heap.size ≤ bk ∧ bk < wx.heap.size ∧ J.heap.size ≤ lo ∧ hi ≤ wx.heap.size ∧ (bk < lo ∨ hi ≤ bk) ∧ Hid (Box wx bk (cs AA cc)) ∧ Hid (Ints wx lo hi (.slice AA n cc) d) ∧ Below J.heap.size J wx
theorem NewVar.make {J wx : World} {bk : Nat} {cs : Option Addr → Nat → List Value} {n cc : Nat} {AA : Option Addr} {d : List Int} (i : Ints wx lo hi (.slice AA n cc) d) (g : Below J.heap.size J wx) (x : Box wx bk (cs AA cc))
    (h1 : J.heap.size ≤ bk) (h3 : J.heap.size ≤ lo) (h5 : bk < lo ∨ hi ≤ bk) : NewVar J wx bk cs n d :=
  ⟨lo, hi, cc, AA, h1, x.1, h3, i.hi_le, h5, Lib.hid x, Lib.hid i, g⟩
theorem Box.open1 {v0 : Value} (h : Box w b [v0]) : b < w.heap.size ∧ w.cell? ⟨b, 0, none⟩ = some v0 := ⟨h.1, h.2 0 _ rfl⟩
theorem Box.open3 {v0 v1 v2 : Value} (h : Box w b [v0, v1, v2]) : b < w.heap.size ∧ w.cell? ⟨b, 0, none⟩ = some v0 ∧ w.cell? ⟨b, 1, none⟩ = some v1 ∧ w.cell? ⟨b, 2, none⟩ = some v2 := ⟨h.1, h.2 0 _ rfl, h.2 1 _ rfl, h.2 2 _ rfl⟩
theorem Box.open4 {v0 v1 v2 v3 : Value} (h : Box w b [v0, v1, v2, v3]) : b < w.heap.size ∧ w.cell? ⟨b, 0, none⟩ = some v0 ∧ w.cell? ⟨b, 1, none⟩ = some v1 ∧ w.cell? ⟨b, 2, none⟩ = some v2 ∧ w.cell? ⟨b, 3, none⟩ = some v3 := ⟨h.1, h.2 0 _ rfl, h.2 1 _ rfl, h.2 2 _ rfl, h.2 3 _ rfl⟩
theorem Own.step {e : TypeId} {size n : Nat} {v : Value} {xs : List Value} (h : Own w lo hi e size v n xs) (hb : Below w.heap.size w w') : Own w' lo hi e size v n xs := h.below hb h.2.2
theorem Ints.step {v : Value} {zs : List Int} (h : Ints w lo hi v zs) (hb : Below w.heap.size w w') : Ints w' lo hi v zs := Own.step h hb
end
end Go.Proofs.YtepjjlaipindnaaDoor
