/- Contracts: slices.Repeat at one integer. -/
import Derived.Test.YtmjjepgnciibcaaMul
import Derived.Test.YtmjjepgnciibcaaOwn
import Derived.Test.YtmjjepgnciibcaaBox
import Derived.Test.YtmjjepgnciibcaaOrd
import Derived.Deep.OwnRows
import Derived.Laws.CopyOwn
import Derived.WalkKit
namespace Go.Proofs.Ytmjjepgnciibcaa
open Go.RowKit
set_option linter.unusedVariables false
set_option linter.unusedSimpArgs false
/-- The row of N cells, the first k of them p. -/
def repRow (N : Nat) (p : Int) (k : Nat) : List Value := (List.replicate k p ++ List.replicate (N - k) 0).map (Value.int .i64)
theorem repRow_length {N k : Nat} (p : Int) (h : k ≤ N) : (repRow N p k).length = N := by simp [repRow]; omega
theorem repRow_zero (N : Nat) (p : Int) : repRow N p 0 = List.replicate N (.int .i64 0) := by simp [repRow]
theorem repRow_full (N : Nat) (p : Int) : repRow N p N = (List.replicate N p).map (Value.int .i64) := by simp [repRow]
theorem repRow_splice {N k m : Nat} (p : Int) (h : k + m ≤ N) : splice (repRow N p k) k ((List.replicate m p).map (Value.int .i64)) = repRow N p (k + m) := by
  unfold splice repRow
  simp only [List.map_append, List.map_replicate, List.length_replicate]
  rw [List.take_append_of_le_length (by simp), List.take_of_length_le (by simp), List.drop_append, List.drop_eq_nil_of_le (by simp), List.nil_append, List.length_replicate, List.drop_replicate, ← List.append_assoc, List.replicate_append_replicate, show N - k - (k + m - k) = N - (k + m) by omega]
theorem repRow_get {N k j : Nat} (p : Int) (h : j < k) : (repRow N p k)[j]? = some (.int .i64 p) := by
  simp [repRow, List.getElem?_append, h]
theorem madeRow (w : World) (N : Nat) (p : Int) : (w.alloc (.cells (madeCells #[Value.int .i64 0] N) 3)).heap[w.heap.size]? = some (.cells (repRow N p 0).toArray 3 (0, 0)) := by
  rw [heap_alloc_new, repRow_zero]
  congr 2
  apply Array.ext'
  rw [toList_madeCells_one]
theorem src_one {w : World} {b : Nat} {p : Int} (o : Obj) (hb : b < w.heap.size) (hc : w.cell? ⟨b, 0, none⟩ = some (.int .i64 p)) : ∀ j v, [Value.int .i64 p][j]? = some v → (w.alloc o).cell? ((⟨b, 0, none⟩ : Addr).add j) = some v := by
  intro j v hv
  match j, hv with
  | 0, hv => simp at hv; subst hv; simpa [Addr.add] using (cell_old hb).trans hc
theorem src_row {w : World} {g N k m : Nat} {p : Int} (hg : w.heap[g]? = some (.cells (repRow N p k).toArray 3 (0, 0))) (hm : m ≤ k) : ∀ j v, ((List.replicate m p).map (Value.int .i64))[j]? = some v → w.cell? ((⟨g, 0, none⟩ : Addr).add j) = some v := by
  intro j v hv
  rw [Addr.add_mid, Nat.zero_add, cell_of_row w g j _ _ _ hg]
  have hj : j < m := by have := (List.getElem?_eq_some_iff.1 hv).1; simpa using this
  simp [hj] at hv
  subst hv
  simpa using repRow_get (N := N) p (Nat.lt_of_lt_of_le hj hm)
theorem one_map (zs : List Int) : ∀ v ∈ zs.map (Value.int .i64), v.oneCell' = true := by
  intro v hv
  obtain ⟨z, _, rfl⟩ := List.mem_map.1 hv
  rfl
theorem Try.infoInt1 : (Try.prog.info? 3).map (·.size) = some 1 := by kernel_rfl
theorem Try.infoInt3 : (Try.prog.info? 3).map (fun i => (i.zero, i.size, i.bytes)) = some (some (.int .i64 0), 1, 8) := by kernel_rfl
end Go.Proofs.Ytmjjepgnciibcaa
