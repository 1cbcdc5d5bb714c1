/- Words for the grids: a variable that holds a grid; its load, its store, its return as a whole. -/
import Derived.Test.YtmjjepgnciibcaaBitRow
import Derived.Test.YtmjjepgnciibcaaBox
import Derived.Test.YtmjjepgnciibcaaRect2
import Derived.Deep.DeepCutAuto
import Derived.Deep.RegionHeld3
import Derived.Deep.MidRow
namespace Go.Proofs.Ytmjjepgnciibcaa
open Go.RowKit
set_option linter.unusedVariables false
set_option linter.unusedSimpArgs false
/-- The cells of a grid. -/
def gcells (m : Nat → Nat) : Array Value := (Array.range 16).map fun y => .int .i64 (m y)
theorem gcells_get (m : Nat → Nat) {y : Nat} (h : y < 16) : (gcells m)[y]? = some (.int .i64 (m y)) := by simp [gcells, h]
theorem gcells_size (m : Nat → Nat) : (gcells m).size = 16 := by simp [gcells]
theorem gcells_congr {m n : Nat → Nat} (h : ∀ y, y < 16 → m y = n y) : gcells m = gcells n := by
  refine Array.ext_getElem? fun i => ?_
  by_cases hi : i < 16
  · rw [gcells_get m hi, gcells_get n hi, h i hi]
  · rw [Array.getElem?_eq_none (by rw [gcells_size]; omega), Array.getElem?_eq_none (by rw [gcells_size]; omega)]
theorem gcells_set (m : Nat → Nat) {k : Nat} (hk : k < 16) (v : Nat) : (gcells m).set! k (.int .i64 v) = gcells (fun y => if y = k then v else m y) := by
  refine Array.ext_getElem? fun i => ?_
  by_cases hi : i < 16
  · rw [gcells_get _ hi]
    by_cases e : k = i
    · subst e; simp [gcells_size, hk]
    · simp [e, gcells_get m hi, Ne.symm e]
  · rw [Array.getElem?_eq_none (by simp [gcells_size]; omega), Array.getElem?_eq_none (by rw [gcells_size]; omega)]
/-- A variable that holds a grid. -/
def GB (w : World) (b : Nat) (m : Nat → Nat) : Prop := w.heap[b]? = some (.cells (gcells m) 60 (0, 0))
theorem GB.cell {w : World} {b : Nat} {m : Nat → Nat} (h : GB w b m) {k : Nat} (hk : k < 16) : w.cell? ⟨b, k, none⟩ = some (.int .i64 (m k)) := by rw [cell_of_row w b k _ _ _ h, gcells_get m hk]
theorem GB.frozen {w : World} {b : Nat} {m : Nat → Nat} (h : GB w b m) (k : Nat) : w.frozen? ⟨b, k, none⟩ = false := frozen_of_row w b k _ _ h
theorem gcells_zero : gcells (fun _ => 0) = #[.int .i64 0, .int .i64 0, .int .i64 0, .int .i64 0, .int .i64 0, .int .i64 0, .int .i64 0, .int .i64 0, .int .i64 0, .int .i64 0, .int .i64 0, .int .i64 0, .int .i64 0, .int .i64 0, .int .i64 0, .int .i64 0] := by
  have e : Array.range 16 = #[0, 1, 2, 3, 4, 5, 6, 7, 8, 9, 10, 11, 12, 13, 14, 15] := by decide
  unfold gcells; rw [e]; simp
theorem GB.lt {w : World} {b : Nat} {m : Nat → Nat} (h : GB w b m) : b < w.heap.size := by
  rcases Nat.lt_or_ge b w.heap.size with h' | h'
  · exact h'
  · unfold GB at h; rw [Array.getElem?_eq_none h'] at h; cases h
theorem GB.new {w : World} {b : Nat} {m : Nat → Nat} (hb : b = w.heap.size) : GB (w.alloc (.cells (gcells m) 60 (0, 0))) b m := by subst hb; exact heap_alloc_new _ _
theorem GB.alloc {w : World} {b : Nat} {m : Nat → Nat} (h : GB w b m) (o : Obj) : GB (w.alloc o) b m := by unfold GB; rw [heap_alloc_old w o h.lt]; exact h
theorem GB.drew {w : World} {b : Nat} {m : Nat → Nat} (h : GB w b m) : GB w.drew b m := h
theorem GB.far {w : World} {b : Nat} {m : Nat → Nat} (h : GB w b m) (a : Addr) (v : Value) (hne : b ≠ a.block) : GB (w.setCell a v) b m := by unfold GB; rw [heap_setCell_other w a b v hne]; exact h
theorem GB.set {w : World} {b : Nat} {m : Nat → Nat} (h : GB w b m) {k : Nat} (hk : k < 16) (v : Nat) : GB (w.setCell ⟨b, k, none⟩ (.int .i64 v)) b (fun y => if y = k then v else m y) := by
  unfold GB; rw [heap_setCell_same w b k _ _ _ h]; rw [← gcells_set m hk v]; simp
theorem gcells_out (m : Nat → Nat) : gcells m = #[.int .i64 (m 0), .int .i64 (m 1), .int .i64 (m 2), .int .i64 (m 3), .int .i64 (m 4), .int .i64 (m 5), .int .i64 (m 6), .int .i64 (m 7), .int .i64 (m 8), .int .i64 (m 9), .int .i64 (m 10), .int .i64 (m 11), .int .i64 (m 12), .int .i64 (m 13), .int .i64 (m 14), .int .i64 (m 15)] := by
  have e : Array.range 16 = #[0, 1, 2, 3, 4, 5, 6, 7, 8, 9, 10, 11, 12, 13, 14, 15] := by decide
  unfold gcells; rw [e]; simp
theorem GB.congr {w : World} {b : Nat} {m n : Nat → Nat} (h : GB w b m) (e : ∀ y, y < 16 → m y = n y) : GB w b n := by unfold GB; rw [← gcells_congr e]; exact h

theorem GB.out {w w' : World} {b lo hi : Nat} {m : Nat → Nat} (h : GB w b m) (ho : Out lo hi w w') (hk : b < lo ∨ hi ≤ b) : GB w' b m := by unfold GB; rw [ho.block b h.lt hk]; exact h
theorem GB.below {w w' : World} {b B : Nat} {m : Nat → Nat} (h : GB w b m) (hb : Below B w w') (hB : b < B) : GB w' b m := by unfold GB; rw [hb.block b hB]; exact h
theorem GB.range {w : World} {b : Nat} {m : Nat → Nat} (h : GB w b m) : w.rangeAt b 0 (gcells m).toList := fun j v hv => by
  rw [Nat.zero_add, cell_of_row w b j _ _ _ h]
  simpa using hv
theorem GB.there {w : World} {b : Nat} {m : Nat → Nat} (h : GB w b m) (n : Nat → Nat) : w.there b 0 (gcells n).size := fun j hj => by
  rw [gcells_size] at hj
  rw [Nat.zero_add]
  exact ⟨by rw [h.cell hj]; rfl, h.frozen j⟩
theorem gdesc : ∃ d, Try.prog.underlying 60 = some d ∧ d.isRow = true := ⟨_, rfl, rfl⟩
theorem gsize (m : Nat → Nat) : (Try.prog.info? 60).map (·.size) = some (gcells m).toList.length := by
  rw [Array.length_toList, gcells_size]; kernel_rfl
theorem gone (m : Nat → Nat) : (gcells m).all (·.oneCell') = true := by
  rw [Array.all_eq_true_iff_forall_mem]
  intro v hv
  simp only [gcells, Array.mem_map] at hv
  obtain ⟨y, _, rfl⟩ := hv
  rfl
theorem gset_same {w : World} {b : Nat} {m : Nat → Nat} (h : GB w b m) (n : Nat → Nat) : GB (w.setCells b 0 (gcells n).toList) b n ∧ Out b (b + 1) w (w.setCells b 0 (gcells n).toList) ∧ (w.setCells b 0 (gcells n).toList).heap.size = w.heap.size := by
  have key : ∀ (vs : List Value) (o : Nat) (w : World) (cs : Array Value), w.heap[b]? = some (.cells cs 60 (0, 0)) → o + vs.length ≤ cs.size →
      (∃ cs', (w.setCells b o vs).heap[b]? = some (.cells cs' 60 (0, 0)) ∧ cs'.size = cs.size ∧ (∀ i, i < o → cs'[i]? = cs[i]?) ∧ (∀ i, i < vs.length → cs'[o + i]? = vs[i]?) ∧ (∀ i, o + vs.length ≤ i → cs'[i]? = cs[i]?)) ∧ Out b (b + 1) w (w.setCells b o vs) ∧ (w.setCells b o vs).heap.size = w.heap.size := by
    intro vs
    induction vs with
    | nil => intro o w cs hb ho; exact ⟨⟨cs, hb, rfl, fun _ _ => rfl, fun i hi => by simp at hi, fun _ _ => rfl⟩, Out.refl _ _ _, rfl⟩
    | cons v vs ih =>
      intro o w cs hb ho
      simp only [List.length_cons] at ho
      have h1 := heap_setCell_same w b o cs 60 v hb
      obtain ⟨⟨cs', e1, e2, e3, e4, e5⟩, e6, e7⟩ := ih (o + 1) (w.setCell ⟨b, o, none⟩ v) (cs.set! o v) h1 (by simp; omega)
      rw [World.setCells]
      refine ⟨⟨cs', e1, by simpa using e2, fun i hi => ?_, fun i hi => ?_, fun i hi => ?_⟩, ((Out.refl b (b + 1) w).setCell (Nat.le_refl _) (Nat.lt_succ_self _) v).trans e6, by rw [e7]; simp [World.setCell]⟩
      · rw [e3 i (by omega)]
        simp [Array.getElem?_setIfInBounds]
        omega
      · cases i with
        | zero =>
          rw [Nat.add_zero, e3 o (by omega)]
          simp [Array.getElem?_setIfInBounds]
          omega
        | succ i =>
          rw [show o + (i + 1) = o + 1 + i by omega, e4 i (by simpa using hi)]
          simp
      · simp only [List.length_cons] at hi
        rw [e5 i (by omega)]
        simp [Array.getElem?_setIfInBounds]
        omega
  obtain ⟨⟨cs', e1, e2, _, e4, _⟩, e6, e7⟩ := key (gcells n).toList 0 w (gcells m) h (by simp [gcells_size])
  refine ⟨?_, e6, e7⟩
  unfold GB
  rw [e1]
  congr 2
  refine Array.ext_getElem? fun i => ?_
  rw [gcells_size] at e2
  by_cases hi : i < 16
  · have := e4 i (by simp [gcells_size]; omega)
    simpa using this
  · rw [Array.getElem?_eq_none (by omega), Array.getElem?_eq_none (by rw [gcells_size]; omega)]
/-- The load of a whole grid, in a plain region. -/
theorem wpList_gload {ops : Array Oper} {rest : List Oper} {o : Oper} {a : Act} {w : World} {Q : Exit → Act → World → Prop} {b : Nat} {m : Nat → Nat} (x : Operand) (hgd : o.guard = none) (ho : o.op = .load 60 x)
    (hx : a.eval x = .pointer (some ⟨b, 0, none⟩)) (h : GB w b m) (k : wpList Try.prog ops Q rest (a.put o.dst (.agg (gcells m))) w) : wpList Try.prog ops Q (o :: rest) a w := by
  obtain ⟨d, hu, hd⟩ := gdesc
  refine wpList_load_mid hgd _ x ho b 0 hx _ d h.range hu hd (gsize m) ?_
  simpa using k
/-- Its store. -/
theorem wpList_gstore {ops : Array Oper} {rest : List Oper} {o : Oper} {a : Act} {w : World} {Q : Exit → Act → World → Prop} {b : Nat} {m : Nat → Nat} (n : Nat → Nat) (x y : Operand) (hgd : o.guard = none) (ho : o.op = .store 60 x y)
    (hx : a.eval x = .pointer (some ⟨b, 0, none⟩)) (hy : a.eval y = .agg (gcells n)) (h : GB w b m)
    (k : ∀ w' : World, GB w' b n → Out b (b + 1) w w' → w'.heap.size = w.heap.size → wpList Try.prog ops Q rest (a.put o.dst undef) w') : wpList Try.prog ops Q (o :: rest) a w := by
  obtain ⟨k1, k2, k3⟩ := gset_same h n
  refine wpList_store_mid hgd _ x y ho b 0 _ hx hy (h.there n) (by rw [gsize m]; simp [gcells_size]) (gone n) (k _ k1 k2 k3)
/-- The same in a region that draws its order. -/
theorem wp_gstore {o : Oper} {a : Act} {w : World} {K : Act → World → Prop} {Q : Exit → Act → World → Prop} {b : Nat} {m : Nat → Nat} (n : Nat → Nat) (x y : Operand) (ho : o.op = .store 60 x y)
    (hx : a.eval x = .pointer (some ⟨b, 0, none⟩)) (hy : a.eval y = .agg (gcells n)) (h : GB w b m)
    (k : ∀ w' : World, GB w' b n → Out b (b + 1) w w' → w'.heap.size = w.heap.size → K (a.put o.dst undef) w') : o.wp Try.prog a w K Q := by
  obtain ⟨k1, k2, k3⟩ := gset_same h n
  exact wp_store_mid _ x y ho b 0 _ hx hy (h.there n) (by rw [gsize m]; simp [gcells_size]) (gone n) (k _ k1 k2 k3)
theorem yields_gload {ops : Array Oper} {S : World → Prop} {op : Oper} {a : Act} {b : Nat} {m : Nat → Nat} (hw : Region.wanted op (yielded ops a.tmps) = true) (x : Operand) (ho : op.op = .load 60 x)
    (hx : a.eval x = .pointer (some ⟨b, 0, none⟩)) (hS : ∀ w, S w → GB w b m) : YieldsIf Try.prog ops S op (.agg (gcells m)) a := by
  obtain ⟨d, hu, hd⟩ := gdesc
  have := yieldsIf_load_mid hw _ x ho b 0 hx (gcells m).toList d (fun w hw => (hS w hw).range) hu hd (gsize m)
  simpa using this
/-- A grid is returned. -/
theorem gresult {fn : Func} {p : Tmp} (h : fn.results = #[.cell p 60]) {tmps : Array Value} {w : World} {b : Nat} {m : Nat → Nat} (hp : tmps.getD p undef = .pointer (some ⟨b, 0, none⟩)) (hg : GB w b m) : (results fn tmps).run Try.prog w = .ok (.agg (gcells m)) w := by
  refine results_cell_row h tmps w b _ _ _ _ hp hg (Try.underlying60) rfl ?_
  have := gsize m
  rwa [Array.length_toList] at this
/-- A variable's block, whole: a struct of one-cell fields. -/
def VB (w : World) (b : Nat) (cs : List Value) : Prop := ∃ t, w.heap[b]? = some (.cells cs.toArray t (0, 0))
section
variable {w w' : World} {b lo hi B : Nat} {cs : List Value}
theorem VB.lt (h : VB w b cs) : b < w.heap.size := by
  obtain ⟨t, h⟩ := h
  rcases Nat.lt_or_ge b w.heap.size with h' | h'
  · exact h'
  · rw [Array.getElem?_eq_none h'] at h; cases h
theorem VB.new {t : TypeId} (hb : b = w.heap.size) : VB (w.alloc (.cells cs.toArray t (0, 0))) b cs := by subst hb; exact ⟨t, heap_alloc_new _ _⟩
theorem VB.alloc (h : VB w b cs) (o : Obj) : VB (w.alloc o) b cs := by
  have := h.lt
  obtain ⟨t, h⟩ := h
  exact ⟨t, by rw [heap_alloc_old w o this]; exact h⟩
theorem VB.drew (h : VB w b cs) : VB w.drew b cs := h
theorem VB.out (h : VB w b cs) (ho : Out lo hi w w') (hk : b < lo ∨ hi ≤ b) : VB w' b cs := by
  have := h.lt
  obtain ⟨t, h⟩ := h
  exact ⟨t, by rw [ho.block b this hk]; exact h⟩
theorem VB.below (h : VB w b cs) (hb : Below B w w') (hB : b < B) : VB w' b cs := by
  obtain ⟨t, h⟩ := h
  exact ⟨t, by rw [hb.block b hB]; exact h⟩
theorem VB.step (h : VB w b cs) (hb : Below w.heap.size w w') : VB w' b cs := h.below hb h.lt
theorem VB.far (h : VB w b cs) (a : Addr) (v : Value) (hne : b ≠ a.block) : VB (w.setCell a v) b cs := by
  obtain ⟨t, h⟩ := h
  exact ⟨t, by rw [heap_setCell_other w a b v hne]; exact h⟩
theorem VB.set (h : VB w b cs) (i : Nat) (v : Value) : VB (w.setCell ⟨b, i, none⟩ v) b (cs.set i v) := by
  obtain ⟨t, h⟩ := h
  refine ⟨t, ?_⟩
  rw [heap_setCell_same w b i _ _ v h]
  simp
theorem VB.cell (h : VB w b cs) (o : Nat) : w.cell? ⟨b, o, none⟩ = cs[o]? := by
  obtain ⟨t, h⟩ := h
  rw [cell_of_row w b o _ _ _ h]
  simp
theorem VB.frozen (h : VB w b cs) (o : Nat) : w.frozen? ⟨b, o, none⟩ = false := by
  obtain ⟨t, h⟩ := h
  exact frozen_of_row w b o _ _ h
theorem VB.open1 {v0 : Value} (h : VB w b [v0]) : b < w.heap.size ∧ w.cell? ⟨b, 0, none⟩ = some v0 ∧ w.frozen? ⟨b, 0, none⟩ = false := ⟨h.lt, h.cell 0, h.frozen 0⟩
theorem VB.open2 {v0 v1 : Value} (h : VB w b [v0, v1]) : b < w.heap.size ∧ w.cell? ⟨b, 0, none⟩ = some v0 ∧ w.cell? ⟨b, 1, none⟩ = some v1 ∧ w.frozen? ⟨b, 0, none⟩ = false ∧ w.frozen? ⟨b, 1, none⟩ = false := ⟨h.lt, h.cell 0, h.cell 1, h.frozen 0, h.frozen 1⟩
theorem VB.open4 {v0 v1 v2 v3 : Value} (h : VB w b [v0, v1, v2, v3]) : b < w.heap.size ∧ w.cell? ⟨b, 0, none⟩ = some v0 ∧ w.cell? ⟨b, 1, none⟩ = some v1 ∧ w.cell? ⟨b, 2, none⟩ = some v2 ∧ w.cell? ⟨b, 3, none⟩ = some v3 ∧ w.frozen? ⟨b, 0, none⟩ = false ∧ w.frozen? ⟨b, 1, none⟩ = false ∧ w.frozen? ⟨b, 2, none⟩ = false ∧ w.frozen? ⟨b, 3, none⟩ = false :=
  ⟨h.lt, h.cell 0, h.cell 1, h.cell 2, h.cell 3, h.frozen 0, h.frozen 1, h.frozen 2, h.frozen 3⟩
theorem VB.set4 {u0 u1 u2 u3 : Value} (h : VB w b [u0, u1, u2, u3]) (v0 v1 v2 v3 : Value) : VB ((((w.setCell ⟨b, 0, none⟩ v0).setCell ⟨b, 1, none⟩ v1).setCell ⟨b, 2, none⟩ v2).setCell ⟨b, 3, none⟩ v3) b [v0, v1, v2, v3] :=
  (((h.set 0 v0).set 1 v1).set 2 v2).set 3 v3
end
end Go.Proofs.Ytmjjepgnciibcaa
