/- An image that is being built: its variable's block, its row that grows. -/
import Derived.Test.YtmjjepgnciibcaaIm
import Derived.Test.YtmjjepgnciibcaaBox
import Derived.Deep.AppendLies
namespace Go.Proofs.Ytmjjepgnciibcaa
open Go.RowKit
set_option linter.unusedVariables false
/-- The image that is being built lies in block b, its row in a block from lo on, another than b. -/
def AccL (w1 wr : World) (lo b : Nat) (X Y : Int) (d : List Int) (v : Value) : Prop :=
  wr.cell? ⟨b, 0, none⟩ = some (.int .i64 X) ∧ wr.cell? ⟨b, 1, none⟩ = some (.int .i64 Y) ∧ wr.cell? ⟨b, 2, none⟩ = some v ∧ wr.frozen? ⟨b, 2, none⟩ = false ∧
  wr.ownsRow lo 3 1 v d.length (d.map (Value.int .i64)) ∧ v.ownBlock ≠ some b ∧ lo ≤ b ∧ Below lo w1 wr ∧ b < wr.heap.size
def AccE (w1 wr : World) (lo b : Nat) (X Y : Int) (d : List Int) : Prop := ∃ v, AccL w1 wr lo b X Y d v
theorem AccL.push {w1 wr wa w2 : World} {lo b gg cap H : Nat} {X Y : Int} {d : List Int} {v : Value} {z : Int} (h : AccL w1 wr lo b X Y d v) (hb : Below wr.heap.size wr wa)
    (hown : w2.ownsRow lo 3 1 (.slice (some ⟨gg, 0, none⟩) (d.length + 1) cap) (d.length + 1) (d.map (Value.int .i64) ++ [.int .i64 z])) (hg : wa.grownBy w2 v.ownBlock) (hat : v.ownBlock = some gg ∨ gg = H) (hH : b < H) :
    AccE w1 (w2.setCell ⟨b, 2, none⟩ (.slice (some ⟨gg, 0, none⟩) (d.length + 1) cap)) lo b X Y (d ++ [z]) := by
  obtain ⟨h0, h1, h2, h3, h4, h5, h6, h7, h8⟩ := h
  have hgb : gg ≠ b := by
    rcases hat with hat | hat
    · intro e; subst e; exact h5 hat
    · omega
  have hk : ∀ k, k < wr.heap.size → some k ≠ v.ownBlock → w2.heap[k]? = wr.heap[k]? := fun k hk hne => (hg.block k (by have := hb.size; omega) hne).trans (hb.block k hk)
  have c0 : ∀ o, w2.cell? ⟨b, o, none⟩ = wr.cell? ⟨b, o, none⟩ := fun o => World.cell?_of_block (hk b h8 (Ne.symm h5))
  have f0 : ∀ o, w2.frozen? ⟨b, o, none⟩ = wr.frozen? ⟨b, o, none⟩ := fun o => World.frozen?_of_block (hk b h8 (Ne.symm h5))
  have hlo : Below lo wr w2 := ⟨hg.os.trans hb.os, hg.tape.trans hb.tape, hg.output.trans hb.output, Nat.le_trans hb.size hg.size, fun k hk' => hk k (by omega) (fun e => by have := h4.lt k e.symm; omega)⟩
  refine ⟨.slice (some ⟨gg, 0, none⟩) (d.length + 1) cap, by simp [go_sem, c0, h0], by simp [go_sem, c0, h1], by simp [go_sem, c0, h2], by simp [go_sem, f0, h3], ?_, by simpa [Value.ownBlock] using hgb, h6, (h7.trans hlo).setCell h6 _, by have := hlo.size; simp [World.setCell]; omega⟩
  rw [List.length_append, List.map_append]
  refine ⟨by simp, ?_⟩
  rcases hown.2 with ⟨e, _⟩ | ⟨g', cap', cur, e, r1, r2, r3⟩
  · simp at e
  · refine .inr ⟨g', cap', cur, e, r1, ?_, r3⟩
    injection e with e1
    injection e1 with e1
    injection e1 with e1
    subst e1
    rw [Below.heap_setCell _ _ _ _ hgb]
    exact r2
theorem AccL.pushN {w1 wr wa w2 : World} {lo b gg cap H : Nat} {X Y : Int} {d : List Int} {v : Value} {ns : List Int} (h : AccL w1 wr lo b X Y d v) (hb : Below wr.heap.size wr wa)
    (hown : w2.ownsRow lo 3 1 (.slice (some ⟨gg, 0, none⟩) (d.length + ns.length) cap) (d.length + ns.length) (d.map (Value.int .i64) ++ ns.map (Value.int .i64))) (hg : wa.grownBy w2 v.ownBlock) (hat : v.ownBlock = some gg ∨ gg = H) (hH : b < H) :
    AccE w1 (w2.setCell ⟨b, 2, none⟩ (.slice (some ⟨gg, 0, none⟩) (d.length + ns.length) cap)) lo b X Y (d ++ ns) := by
  obtain ⟨h0, h1, h2, h3, h4, h5, h6, h7, h8⟩ := h
  have hgb : gg ≠ b := by
    rcases hat with hat | hat
    · intro e; subst e; exact h5 hat
    · omega
  have hk : ∀ k, k < wr.heap.size → some k ≠ v.ownBlock → w2.heap[k]? = wr.heap[k]? := fun k hk hne => (hg.block k (by have := hb.size; omega) hne).trans (hb.block k hk)
  have c0 : ∀ o, w2.cell? ⟨b, o, none⟩ = wr.cell? ⟨b, o, none⟩ := fun o => World.cell?_of_block (hk b h8 (Ne.symm h5))
  have f0 : ∀ o, w2.frozen? ⟨b, o, none⟩ = wr.frozen? ⟨b, o, none⟩ := fun o => World.frozen?_of_block (hk b h8 (Ne.symm h5))
  have hlo : Below lo wr w2 := ⟨hg.os.trans hb.os, hg.tape.trans hb.tape, hg.output.trans hb.output, Nat.le_trans hb.size hg.size, fun k hk' => hk k (by omega) (fun e => by have := h4.lt k e.symm; omega)⟩
  refine ⟨.slice (some ⟨gg, 0, none⟩) (d.length + ns.length) cap, by simp [go_sem, c0, h0], by simp [go_sem, c0, h1], by simp [go_sem, c0, h2], by simp [go_sem, f0, h3], ?_, by simpa [Value.ownBlock] using hgb, h6, (h7.trans hlo).setCell h6 _, by have := hlo.size; simp [World.setCell]; omega⟩
  rw [List.length_append, List.map_append]
  refine ⟨by simp, ?_⟩
  rcases hown.2 with ⟨e, _⟩ | ⟨g', cap', cur, e, r1, r2, r3⟩
  · simp at e
  · refine .inr ⟨g', cap', cur, e, r1, ?_, r3⟩
    injection e with e1
    injection e1 with e1
    injection e1 with e1
    subst e1
    rw [Below.heap_setCell _ _ _ _ hgb]
    exact r2
theorem AccL.after {w1 wr wa w2 : World} {lo b : Nat} {X Y : Int} {d : List Int} {v : Value} (h : AccL w1 wr lo b X Y d v) (hb : Below wr.heap.size wr wa) (hg : wa.grownBy w2 v.ownBlock) : w2.cell? ⟨b, 2, none⟩ = some v ∧ w2.frozen? ⟨b, 2, none⟩ = false := by
  obtain ⟨h0, h1, h2, h3, h4, h5, h6, h7, h8⟩ := h
  have hk : w2.heap[b]? = wr.heap[b]? := (hg.block b (by have := hb.size; omega) (Ne.symm h5)).trans (hb.block b h8)
  exact ⟨(World.cell?_of_block hk).trans h2, (World.frozen?_of_block hk).trans h3⟩
theorem below_da {w : World} {o : Obj} {k : Nat} : Below w.heap.size w ((w.drewN k).alloc o) := (below_refl_drewN _ _ _).alloc (Nat.le_refl _) _
theorem own_da {w : World} {o : Obj} {k base : Nat} {e : TypeId} {size n : Nat} {v : Value} {xs : List Value} (h : w.ownsRow base e size v n xs) : ((w.drewN k).alloc o).ownsRow base e size v n xs := World.ownsRow.alloc (w := w.drewN k) h o
theorem news_da {w : World} {k : Nat} {z : Int} : ∀ j u, [Value.int .i64 z][j]? = some u → ((w.drewN k).alloc (.cells #[.int .i64 z] 3)).cell? ((⟨w.heap.size, 0, none⟩ : Addr).add j) = some u := World.news_of_block (cs := #[.int .i64 z]) (t := 3) (fr := (0, 0)) (heap_alloc_new (w.drewN k) _)
theorem own_ad {w : World} {o : Obj} {k base : Nat} {e : TypeId} {size n : Nat} {v : Value} {xs : List Value} (h : w.ownsRow base e size v n xs) : ((w.alloc o).drewN k).ownsRow base e size v n xs := h.alloc o
theorem news_ad {w : World} {k : Nat} {z : Int} : ∀ j u, [Value.int .i64 z][j]? = some u → ((w.alloc (.cells #[.int .i64 z] 3)).drewN k).cell? ((⟨w.heap.size, 0, none⟩ : Addr).add j) = some u := World.news_of_block (cs := #[.int .i64 z]) (t := 3) (fr := (0, 0)) (heap_alloc_new w _)
end Go.Proofs.Ytmjjepgnciibcaa
