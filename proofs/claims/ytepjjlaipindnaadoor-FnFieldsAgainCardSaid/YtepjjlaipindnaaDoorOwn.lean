/- Words for the slices that the program itself makes: which blocks a call may have written, and which blocks a slice lies in. No program in sight. -/
import Derived.Test.YtepjjlaipindnaaDoorMem
import Derived.OwnWalk
import Derived.Laws.OwnMore
import Derived.Deep.Draws
namespace Go.Proofs.YtepjjlaipindnaaDoor
open Go.ChangeShapes Go.WideShapes Go.ChangeAt Go.RowKit

theorem keep3 {W w1 : World} (hb : Below W.heap.size W w1) (b : Nat) (h : b < W.heap.size) : (∀ o, w1.cell? ⟨b, o, none⟩ = W.cell? ⟨b, o, none⟩) ∧ (∀ o, w1.frozen? ⟨b, o, none⟩ = W.frozen? ⟨b, o, none⟩) ∧ b < w1.heap.size :=
  ⟨fun o => hb.cell (p := ⟨b, o, none⟩) h, fun o => hb.frozen (p := ⟨b, o, none⟩) h, Nat.lt_of_lt_of_le h hb.size⟩
/-- A store into another block. -/
theorem cell_far {w : World} {b g o o' : Nat} {u : Value} (h : b ≠ g) : (w.setCell ⟨g, o, none⟩ u).cell? ⟨b, o', none⟩ = w.cell? ⟨b, o', none⟩ := World.cell?_setCell_other w _ _ u (by intro e; injection e with e1; exact h e1.symm)
theorem frozen_far {w : World} {b g o o' : Nat} {u : Value} (h : b ≠ g) : (w.setCell ⟨g, o, none⟩ u).frozen? ⟨b, o', none⟩ = w.frozen? ⟨b, o', none⟩ := World.frozen?_of_block (Below.heap_setCell _ _ _ _ h)
/-- A new block. -/
theorem cell_old {w : World} {o : Obj} {b o' : Nat} (h : b < w.heap.size) : (w.alloc o).cell? ⟨b, o', none⟩ = w.cell? ⟨b, o', none⟩ := World.cell?_alloc_lt w o _ h
/-- Outside the blocks lo .. hi-1 the world w' is as w was (new blocks may have come). -/
structure Out (lo hi : Nat) (w w' : World) : Prop where
  os : w'.os = w.os
  tape : w'.tape = w.tape
  output : w'.output = w.output
  size : w.heap.size ≤ w'.heap.size
  block : ∀ k, k < w.heap.size → k < lo ∨ hi ≤ k → w'.heap[k]? = w.heap[k]?

section
variable {lo hi lo' hi' B : Nat} {w w' w'' : World}
theorem Out.refl (lo hi : Nat) (w : World) : Out lo hi w w := ⟨rfl, rfl, rfl, Nat.le_refl _, fun _ _ _ => rfl⟩
theorem Out.trans (h : Out lo hi w w') (k : Out lo hi w' w'') : Out lo hi w w'' :=
  ⟨k.os.trans h.os, k.tape.trans h.tape, k.output.trans h.output, Nat.le_trans h.size k.size, fun i hi hk => (k.block i (Nat.lt_of_lt_of_le hi h.size) hk).trans (h.block i hi hk)⟩
theorem Out.drew (h : Out lo hi w w') : Out lo hi w w'.drew := ⟨h.os, h.tape, h.output, h.size, h.block⟩
theorem Out.drewN (h : Out lo hi w w') (n : Nat) : Out lo hi w (w'.drewN n) := ⟨h.os, h.tape, h.output, h.size, h.block⟩
theorem Out.alloc (h : Out lo hi w w') (o : Obj) : Out lo hi w (w'.alloc o) :=
  h.trans ⟨rfl, rfl, rfl, by simp, fun k hk _ => Below.heap_alloc _ _ _ hk⟩
theorem Out.setCell (h : Out lo hi w w') {p : Addr} (h1 : lo ≤ p.block) (h2 : p.block < hi) (u : Value) : Out lo hi w (w'.setCell p u) :=
  h.trans ⟨rfl, rfl, rfl, by simp [World.setCell], fun k _ hk => Below.heap_setCell _ _ _ _ (by omega)⟩
theorem Out.of_below (h : Below w.heap.size w w') (lo hi : Nat) : Out lo hi w w' := ⟨h.os, h.tape, h.output, h.size, fun k hk _ => h.block k hk⟩
theorem Out.below (h : Out lo hi w w') (hB : B ≤ lo) (hs : B ≤ w.heap.size) : Below B w w' := ⟨h.os, h.tape, h.output, h.size, fun k hk => h.block k (by omega) (by omega)⟩
theorem Out.of_grown {row : Option Nat} (h : w.grownBy w' row) (hr : ∀ k, row = some k → lo ≤ k ∧ k < hi) : Out lo hi w w' :=
  ⟨h.os, h.tape, h.output, h.size, fun k hk ho => h.block k hk (fun e => by have := hr k e.symm; omega)⟩
theorem Out.mono (h : Out lo hi w w') (h1 : lo' ≤ lo) (h2 : hi ≤ hi') : Out lo' hi' w w' := ⟨h.os, h.tape, h.output, h.size, fun k hk ho => h.block k hk (by omega)⟩
theorem Out.keep (h : Out lo hi w w') (b : Nat) (hb : b < w.heap.size) (hk : b < lo ∨ hi ≤ b) : (∀ o, w'.cell? ⟨b, o, none⟩ = w.cell? ⟨b, o, none⟩) ∧ (∀ o, w'.frozen? ⟨b, o, none⟩ = w.frozen? ⟨b, o, none⟩) :=
  ⟨fun _ => World.cell?_of_block (h.block b hb hk), fun _ => World.frozen?_of_block (h.block b hb hk)⟩
/-- What a call has written in blocks above B is new to whoever stood at B. -/
theorem below_out {w0 : World} (h : Below B w0 w) (k : Out lo hi w w') (hB : B ≤ lo) (hs : B ≤ w.heap.size) : Below B w0 w' := h.trans (k.below hB hs)
theorem below_drewN {B : Nat} {a w : World} (h : Below B a w) (n : Nat) : Below B a (w.drewN n) := ⟨h.os, h.tape, h.output, h.size, h.block⟩
theorem below_refl_drewN (B : Nat) (w : World) (n : Nat) : Below B w (w.drewN n) := below_drewN (Below.refl _ _) n
end

/-- The slice value v, of n elements (of type e, 'size' cells each), is nil or heads a block of the program's own, numbered lo .. hi-1; its elements are the cells xs. -/
def Own (w : World) (lo hi : Nat) (e : TypeId) (size : Nat) (v : Value) (n : Nat) (xs : List Value) : Prop :=
  w.ownsRow lo e size v n xs ∧ (∀ g, v.ownBlock = some g → g < hi) ∧ hi ≤ w.heap.size

section
variable {w w' : World} {lo hi lo' hi' B : Nat} {e : TypeId} {size n : Nat} {v : Value} {xs : List Value}
theorem Own.heap_ (h : Own w lo hi e size v n xs) (hs : w.heap.size ≤ w'.heap.size) (hk : ∀ k, lo ≤ k → k < hi → w'.heap[k]? = w.heap[k]?) : Own w' lo hi e size v n xs := by
  refine ⟨⟨h.1.1, ?_⟩, h.2.1, Nat.le_trans h.2.2 hs⟩
  rcases h.1.2 with hn | ⟨g, cap, cur, rfl, hb, hgg, rest⟩
  · exact .inl hn
  · exact .inr ⟨g, cap, cur, rfl, hb, by rw [hk g hb (h.2.1 g rfl)]; exact hgg, rest⟩
theorem Own.below (h : Own w lo hi e size v n xs) (hb : Below B w w') (hB : hi ≤ B) : Own w' lo hi e size v n xs := h.heap_ hb.size fun k _ hk => hb.block k (by omega)
theorem Own.out (h : Own w lo hi e size v n xs) (hb : Out lo' hi' w w') (hB : hi ≤ lo' ∨ hi' ≤ lo) : Own w' lo hi e size v n xs := h.heap_ hb.size fun k _ hk => hb.block k (by have := h.2.2; omega) (by omega)
theorem Own.drew (h : Own w lo hi e size v n xs) : Own w.drew lo hi e size v n xs := h
theorem Own.drewN (h : Own w lo hi e size v n xs) (k : Nat) : Own (w.drewN k) lo hi e size v n xs := h
theorem Own.alloc (h : Own w lo hi e size v n xs) (o : Obj) : Own (w.alloc o) lo hi e size v n xs := h.heap_ (by simp) fun k _ hk => Below.heap_alloc _ _ _ (by have := h.2.2; omega)
theorem Own.far (h : Own w lo hi e size v n xs) {p : Addr} (hp : p.block < lo ∨ hi ≤ p.block) (u : Value) : Own (w.setCell p u) lo hi e size v n xs := h.heap_ (by simp [World.setCell]) fun k _ hk => Below.heap_setCell _ _ _ _ (by omega)
theorem Own.mono (h : Own w lo hi e size v n xs) (h1 : lo' ≤ lo) (h2 : hi ≤ hi') (h3 : hi' ≤ w.heap.size) : Own w lo' hi' e size v n xs := by
  refine ⟨⟨h.1.1, ?_⟩, fun g hg => Nat.lt_of_lt_of_le (h.2.1 g hg) h2, h3⟩
  rcases h.1.2 with hn | ⟨g, cap, cur, rfl, hb, rest⟩
  · exact .inl hn
  · exact .inr ⟨g, cap, cur, rfl, by omega, rest⟩
theorem Own.nil (w : World) (lo hi : Nat) (e : TypeId) (size : Nat) (hh : hi ≤ w.heap.size) : Own w lo hi e size (.slice none 0 0) 0 [] := ⟨World.ownsRow_nil _ _ _ _, fun g hg => by simp [Value.ownBlock] at hg, hh⟩
/-- After a law that hands a row on: it lies where it lay, or in new memory. -/
theorem Own.of_row (h : w.ownsRow lo e size v n xs) : Own w lo w.heap.size e size v n xs := ⟨h, fun g hg => (h.lt g hg).2, Nat.le_refl _⟩
theorem Own.shape (h : Own w lo hi e size v n xs) : ∃ A cap, v = .slice A n cap ∧ n ≤ cap ∧ cap ≤ maxLen := by
  rcases h.1.2 with ⟨rfl, rfl⟩ | ⟨g, cap, cur, rfl, _, _, h1, h2, _⟩
  · exact ⟨none, 0, rfl, Nat.le_refl _, Nat.zero_le _⟩
  · exact ⟨_, cap, rfl, h1, h2⟩
theorem Own.len (h : Own w lo hi e size v n xs) : n ≤ 9223372036854775807 := by
  obtain ⟨_, _, _, h1, h2⟩ := h.shape
  unfold maxLen at h2
  omega
/-- The block is asked for only where there is an element. -/
theorem Own.at_ {A : Option Addr} {cap : Nat} (h : Own w lo hi e size (.slice A n cap) n xs) (hn : 0 < n) : ∃ g, A = some ⟨g, 0, none⟩ ∧ lo ≤ g ∧ g < hi ∧ (∀ j, j < n * size → w.cell? ⟨g, j, none⟩ = xs[j]?) ∧ ∀ j, w.frozen? ⟨g, j, none⟩ = false := by
  rcases h.1.2 with ⟨_, rfl⟩ | ⟨g, cap', cur, hv, hb, _⟩
  · omega
  · injection hv with h1 h2 h3
    subst h1 h3
    exact ⟨g, rfl, hb, h.2.1 g rfl, fun j hj => h.1.cellAt j hj, fun j => h.1.frozenAt j⟩
theorem Own.stored {g cap : Nat} (h : Own w lo hi e size (.slice (some ⟨g, 0, none⟩) n cap) n xs) (j : Nat) (u : Value) : Own (w.setCell ⟨g, j, none⟩ u) lo hi e size (.slice (some ⟨g, 0, none⟩) n cap) n (xs.set j u) :=
  ⟨(h.1.stored j u).1, h.2.1, by simpa [World.setCell] using h.2.2⟩
theorem Own.grown {row : Option Nat} (h : Own w lo hi e size v n xs) (hg : w.grownBy w' row) (hr : ∀ g, row = some g → g < lo ∨ hi ≤ g) : Own w' lo hi e size v n xs :=
  h.heap_ hg.size fun k h1 h2 => hg.block k (by have := h.2.2; omega) (fun e => by have := hr k e.symm; omega)
end

/-- Integers. -/
def Ints (w : World) (lo hi : Nat) (v : Value) (zs : List Int) : Prop := Own w lo hi 3 1 v zs.length (zs.map (Value.int .i64))
section
variable {w w' : World} {lo hi : Nat} {v : Value} {zs : List Int}
theorem Ints.shape (h : Ints w lo hi v zs) : ∃ A cap, v = .slice A zs.length cap ∧ zs.length ≤ cap ∧ cap ≤ maxLen := Own.shape h
theorem Ints.len_eq {A : Option Addr} {n cap : Nat} (h : Ints w lo hi (.slice A n cap) zs) : zs.length = n := by
  obtain ⟨_, _, e, _⟩ := h.shape
  injection e with _ e2 _
  exact e2.symm
theorem Ints.bd {A : Option Addr} {n cap : Nat} (h : Ints w lo hi (.slice A n cap) zs) : n ≤ 9223372036854775807 := by
  rw [← h.len_eq]; exact Own.len h
theorem Ints.at_ {A : Option Addr} {n cap k : Nat} (h : Ints w lo hi (.slice A n cap) zs) (hk : k < n) : ∃ g z, A = some ⟨g, 0, none⟩ ∧ lo ≤ g ∧ g < hi ∧ zs[k]? = some z ∧ w.cell? ⟨g, k, none⟩ = some (.int .i64 z) ∧ w.frozen? ⟨g, k, none⟩ = false := by
  have e := h.len_eq
  subst e
  obtain ⟨g, rfl, h1, h2, h3, h4⟩ := Own.at_ h (by omega)
  refine ⟨g, zs[k], rfl, h1, h2, List.getElem?_eq_getElem hk, ?_, h4 k⟩
  rw [h3 k (by omega), List.getElem?_map, List.getElem?_eq_getElem hk]
  rfl
theorem Ints.stored {g n cap : Nat} (h : Ints w lo hi (.slice (some ⟨g, 0, none⟩) n cap) zs) (j : Nat) (z : Int) : Ints (w.setCell ⟨g, j, none⟩ (.int .i64 z)) lo hi (.slice (some ⟨g, 0, none⟩) n cap) (zs.set j z) := by
  have e := h.len_eq
  subst e
  have := Own.stored h j (.int .i64 z)
  unfold Ints
  rw [List.map_set, List.length_set]
  exact this
theorem Ints.below {B : Nat} (h : Ints w lo hi v zs) (hb : Below B w w') (hB : hi ≤ B) : Ints w' lo hi v zs := Own.below h hb hB
theorem Ints.out {lo' hi' : Nat} (h : Ints w lo hi v zs) (hb : Out lo' hi' w w') (hB : hi ≤ lo' ∨ hi' ≤ lo) : Ints w' lo hi v zs := Own.out h hb hB
theorem Ints.hi_le (h : Ints w lo hi v zs) : hi ≤ w.heap.size := h.2.2
end

/-- Integers that came in: the elements alone. -/
def Arg (k : IntKind) (w : World) (a : Option Addr) (xs : List Int) : Prop :=
  0 < xs.length → ∃ b off, a = some ⟨b, off, none⟩ ∧ b < w.heap.size ∧ ∀ i z, xs[i]? = some z → w.cell? ⟨b, off + i, none⟩ = some (.int k z)
theorem Arg.of_row {k : IntKind} {w : World} {a : Option Addr} {len cap : Nat} {zs : List Int} (h : IsRow k w a len cap zs) : Arg k w a (zs.take len) ∧ (zs.take len).length = len ∧ len ≤ 9223372036854775807 ∧ ∀ z ∈ zs.take len, (Lit.int k z).wf = true := by
  rcases h with ⟨rfl, rfl, rfl, rfl⟩ | ⟨x, rfl, hl, hm, hz, hcell, hwz⟩
  · exact ⟨fun h => by simp at h, rfl, by omega, fun z hz => by simp at hz⟩
  · unfold maxLen at hm
    refine ⟨fun hn => ?_, by simp; omega, by omega, fun z hz => hwz z (List.mem_of_mem_take hz)⟩
    have hn' : 0 < zs.length := by simp at hn; omega
    obtain ⟨b, off, spot⟩ := x
    have hspot : spot = none := by simpa [Addr.add] using World.cell?_spot (hcell 0 hn')
    subst hspot
    have hlt := World.block_lt_of_cell? _ _ (hcell 0 hn')
    refine ⟨b, off, rfl, by simpa [Addr.add] using hlt, fun i z hi => ?_⟩
    have hi' : i < zs.length ∧ zs[i]? = some z := by
      rw [List.getElem?_take] at hi
      split at hi
      · exact ⟨(List.getElem?_eq_some_iff.1 hi).1, hi⟩
      · cases hi
    have hc := hcell i hi'.1
    rw [Addr.add_lit, List.getD_eq_getElem?_getD, hi'.2] at hc
    exact hc
theorem Arg.below {k : IntKind} {w w' : World} {a : Option Addr} {xs : List Int} (h : Arg k w a xs) (hb : Below w.heap.size w w') : Arg k w' a xs := fun hn => by
  obtain ⟨b, off, e, hlt, hc⟩ := h hn
  exact ⟨b, off, e, Nat.lt_of_lt_of_le hlt hb.size, fun i z hi => (hb.cell (p := ⟨b, off + i, none⟩) hlt).trans (hc i z hi)⟩
end Go.Proofs.YtepjjlaipindnaaDoor
