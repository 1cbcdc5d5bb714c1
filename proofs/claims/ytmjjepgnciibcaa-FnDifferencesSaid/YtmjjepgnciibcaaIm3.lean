/- Contracts over images: TileImage, Scaled of the reference (rows of appended pixels). -/
import Derived.Test.YtmjjepgnciibcaaIm2
import Derived.Test.YtmjjepgnciibcaaBox
import Derived.Deep.RegionHeld3
import Derived.RegionTactic
import Derived.BigRegion
import Derived.ChangeAlike
import Derived.Deep.AppendLies
namespace Go.Proofs.Ytmjjepgnciibcaa.Pl
theorem tab_nat (X Y : Nat) (f : Nat → Nat → Int) : tab (X : Int) (Y : Int) f = tabTo X f (Y * X) := by
  unfold tab
  rw [← Int.natCast_mul]
  rfl
theorem place2 {q Y p X : Nat} (h1 : q < Y) (h2 : p < X) (h3 : X ≤ 16) (h4 : Y ≤ 16) : q * X + p < 256 ∧ (q + 1) * X = q * X + X := by
  have : q * X ≤ 15 * 16 := Nat.mul_le_mul (by omega) h3
  exact ⟨by omega, by rw [Nat.add_mul]; omega⟩
end Go.Proofs.Ytmjjepgnciibcaa.Pl
namespace Go.Proofs.Ytmjjepgnciibcaa
open Go.RowKit
set_option linter.unusedVariables false


/-- The builtin append behind a name that the walk does not open. -/
def appX (ts : Array TypeId) (ty : TypeId) (args : Array Value) := Builtin.append_ ts ty args
theorem app_fold (ts : Array TypeId) (ty : TypeId) (args : Array Value) : Builtin.append_ ts ty args = appX ts ty args := rfl
attribute [local go_sem ↓] app_fold
theorem frozen_old {w : World} {o : Obj} {b o' : Nat} (h : b < w.heap.size) : (w.alloc o).frozen? ⟨b, o', none⟩ = w.frozen? ⟨b, o', none⟩ := World.frozen?_of_block (Below.heap_alloc _ _ _ h)
theorem grown_keep {w w' : World} {v : Value} {base : Nat} {e : TypeId} {size n : Nat} {xs : List Value} (hown : w.ownsRow base e size v n xs) (hg : w.grownBy w' v.ownBlock) (hb : base ≤ w.heap.size) : Below base w w' :=
  ⟨hg.os, hg.tape, hg.output, hg.size, fun k hk => hg.block k (by omega) (fun h => by have := hown.lt k h.symm; omega)⟩
theorem one_cell (w : World) (t : TypeId) (k : IntKind) (z : Int) : ∀ j u, [Value.int k z][j]? = some u → (w.alloc (.cells #[.int k z] t)).cell? ((⟨w.heap.size, 0, none⟩ : Addr).add j) = some u := by
  intro j u hj
  match j, hj with
  | 0, hj => simp at hj; subst hj; simp [Addr.add]
theorem one_one {k : IntKind} (z : Int) : ∀ u ∈ [Value.int k z], u.oneCell' = true := by intro u hu; simp at hu; subst hu; rfl

/-- The image that is being built lies in block b: its data is v, the cells d; below b nothing has changed since w1. -/
def AccV (w1 wr : World) (b : Nat) (X Y : Int) (d : List Int) (v : Value) : Prop :=
  wr.cell? ⟨b, 0, none⟩ = some (.int .i64 X) ∧ wr.cell? ⟨b, 1, none⟩ = some (.int .i64 Y) ∧ wr.cell? ⟨b, 2, none⟩ = some v ∧ wr.frozen? ⟨b, 2, none⟩ = false ∧
  wr.ownsRow (b + 1) 3 1 v d.length (d.map (Value.int .i64)) ∧ Below b w1 wr ∧ b < wr.heap.size
def Acc (w1 wr : World) (b : Nat) (X Y : Int) (d : List Int) : Prop := ∃ v, AccV w1 wr b X Y d v
theorem Acc.start (w1 : World) (X Y : Int) (t : TypeId) : Acc w1 (w1.alloc (.cells #[.int .i64 X, .int .i64 Y, .slice none 0 0] t)) w1.heap.size X Y [] :=
  ⟨.slice none 0 0, by simp [go_sem], by simp [go_sem], by simp [go_sem], by simp [go_sem], World.ownsRow_nil _ _ _ _, by go_grown, by simp⟩
theorem AccV.push {w1 wr wa w2 : World} {b : Nat} {X Y : Int} {d : List Int} {v v' : Value} {z : Int} (h : AccV w1 wr b X Y d v) (hb : Below wr.heap.size wr wa)
    (hown : w2.ownsRow (b + 1) 3 1 v' (d.length + 1) (d.map (Value.int .i64) ++ [.int .i64 z])) (hg : wa.grownBy w2 v.ownBlock) : Acc w1 (w2.setCell ⟨b, 2, none⟩ v') b X Y (d ++ [z]) := by
  obtain ⟨h0, h1, h2, h3, h4, h5, h6⟩ := h
  have hown0 : Own wa (b + 1) wr.heap.size 3 1 v d.length (d.map (Value.int .i64)) := Own.below (Own.of_row h4) hb (Nat.le_refl _)
  have hk : Below (b + 1) wa w2 := ⟨hg.os, hg.tape, hg.output, hg.size, fun k hk => hg.block k (by have := hb.size; omega) (fun e => by have := hown0.1.lt k e.symm; omega)⟩
  have hk2 : Below (b + 1) wr w2 := (hb.mono (by omega)).trans hk
  have c0 : ∀ o, w2.cell? ⟨b, o, none⟩ = wr.cell? ⟨b, o, none⟩ := fun o => hk2.cell (p := ⟨b, o, none⟩) (by simp)
  have f0 : ∀ o, w2.frozen? ⟨b, o, none⟩ = wr.frozen? ⟨b, o, none⟩ := fun o => hk2.frozen (p := ⟨b, o, none⟩) (by simp)
  refine ⟨v', by simp [go_sem, c0, h0], by simp [go_sem, c0, h1], by simp [go_sem, c0, h2], by simp [go_sem, f0, h3], ?_, ?_, ?_⟩
  · have := ownsRow_setCell_below hown (a := ⟨b, 2, none⟩) (by simp) v'
    rw [List.length_append, List.map_append]
    exact this
  · exact (h5.trans (hk2.mono (by omega))).setCell (by simp) _
  · have := hk2.size
    simp [World.setCell]; omega
/-- The finished image, handed back out of its block. -/
theorem AccV.shape {w1 wr : World} {b : Nat} {X Y : Int} {d : List Int} {v : Value} (h : AccV w1 wr b X Y d v) : ∃ A c, v = .slice A d.length c := by
  obtain ⟨A, c, e, _⟩ := (Own.of_row h.2.2.2.2.1).shape
  exact ⟨A, c, e⟩
end Go.Proofs.Ytmjjepgnciibcaa
