/- Contracts: slices.Repeat at one integer. -/
import Derived.Test.YtbgemonpkncldaaMul
import Derived.Test.YtbgemonpkncldaaOwn
import Derived.Test.YtbgemonpkncldaaBox
import Derived.Test.YtbgemonpkncldaaOrd
import Derived.Deep.OwnRows
import Derived.Laws.CopyOwn
import Derived.WalkKit
namespace Go.Proofs.Ytbgemonpkncldaa
open Go.RowKit
set_option linter.unusedVariables false
set_option linter.unusedSimpArgs false
/-- The row of N cells, the first k of them p. -/
def repRow (N : Nat) (p : Int) (k : Nat) : List Value := (List.replicate k p ++ List.replicate (N - k) 0).map (Value.int .i64)
theorem repRow_length {N k : Nat} (p : Int) (h : k ≤ N) : (repRow N p k).length = N := by simp [repRow]; omega
theorem repRow_zero (N : Nat) (p : Int) : repRow N p 0 = List.replicate N (.int .i64 0) := by simp [repRow]
theorem repRow_full (N : Nat) (p : Int) : repRow N p N = (List.replicate N p).map (Value.int .i64) := by simp [repRow]
theorem repRow_splice {N k m : Nat} (p : Int) (h : k + m ≤ N) : splice (repRow N p k) k ((List.replicate m p).map (Value.int .i64)) = repRow N p (k + m) := by
  unfold splice repRow
  simp only [List.map_append, List.map_replicate, List.length_replicate]
  rw [List.take_append_of_le_length (by simp), List.take_of_length_le (by simp), List.drop_append, List.drop_eq_nil_of_le (by simp), List.nil_append, List.length_replicate, List.drop_replicate, ← List.append_assoc, List.replicate_append_replicate, show N - k - (k + m - k) = N - (k + m) by omega]
theorem repRow_get {N k j : Nat} (p : Int) (h : j < k) : (repRow N p k)[j]? = some (.int .i64 p) := by
  simp [repRow, List.getElem?_append, h]
theorem madeRow (w : World) (N : Nat) (p : Int) : (w.alloc (.cells (madeCells #[Value.int .i64 0] N) 3)).heap[w.heap.size]? = some (.cells (repRow N p 0).toArray 3 (0, 0)) := by
  rw [heap_alloc_new, repRow_zero]
  congr 2
  apply Array.ext'
  rw [toList_madeCells_one]
theorem src_one {w : World} {b : Nat} {p : Int} (o : Obj) (hb : b < w.heap.size) (hc : w.cell? ⟨b, 0, none⟩ = some (.int .i64 p)) : ∀ j v, [Value.int .i64 p][j]? = some v → (w.alloc o).cell? ((⟨b, 0, none⟩ : Addr).add j) = some v := by
  intro j v hv
  match j, hv with
  | 0, hv => simp at hv; subst hv; simpa [Addr.add] using (cell_old hb).trans hc
theorem src_row {w : World} {g N k m : Nat} {p : Int} (hg : w.heap[g]? = some (.cells (repRow N p k).toArray 3 (0, 0))) (hm : m ≤ k) : ∀ j v, ((List.replicate m p).map (Value.int .i64))[j]? = some v → w.cell? ((⟨g, 0, none⟩ : Addr).add j) = some v := by
  intro j v hv
  rw [Addr.add_mid, Nat.zero_add, cell_of_row w g j _ _ _ hg]
  have hj : j < m := by have := (List.getElem?_eq_some_iff.1 hv).1; simpa using this
  simp [hj] at hv
  subst hv
  simpa using repRow_get (N := N) p (Nat.lt_of_lt_of_le hj hm)
theorem one_map (zs : List Int) : ∀ v ∈ zs.map (Value.int .i64), v.oneCell' = true := by
  intro v hv
  obtain ⟨z, _, rfl⟩ := List.mem_map.1 hv
  rfl
theorem Try.infoInt1 : (Try.prog.info? 3).map (·.size) = some 1 := by kernel_rfl
theorem Try.infoInt3 : (Try.prog.info? 3).map (fun i => (i.zero, i.size, i.bytes)) = some (some (.int .i64 0), 1, 8) := by kernel_rfl
set_option maxHeartbeats 2000000 in
theorem repeat_any (b N : Nat) (p : Int) (w : World) (hb : b < w.heap.size) (hc : w.cell? ⟨b, 0, none⟩ = some (.int .i64 p)) (h1 : 1 ≤ N) (h2 : N ≤ 256) :
    Calls Try.prog 58 #[.slice (some ⟨b, 0, none⟩) 1 1, .int .i64 N] w fun e w' => e = .returned (.slice (some ⟨w.heap.size, 0, none⟩) N N) ∧ Hid (w'.heap[w.heap.size]? = some (.cells ((List.replicate N p).map (Value.int .i64)).toArray 3 (0, 0))) ∧ Below w.heap.size w w' := by
  obtain ⟨i0, hi0, hz0, hz1, hz2⟩ := info_parts Try.infoInt3
  have HC := Lib.hid hc
  have hmk := fun W => run_make_row (P := Try.prog) 22 3 i0 (.int .i64 0) Try.underlying22 hi0 hz0 hz1 rfl .i64 .i64 N (by rw [hz2]; omega) (by omega) W
  clear hc hi0 hz0 hz1 hz2
  go_enter Try.func58, Try.ntmps58
  go_wp2_with (first | (go_at_call 83; ((with_reducible refine (mul_small N _ h2).mono ?_)); rintro e w' ⟨rfl, rfl⟩) | (refine wpList_copy_splice rfl (.tmp 31) (.tmp 32) 22 22 rfl 3 Try.underlying22 Try.infoInt1 _ _ N N 1 1 rfl rfl w.heap.size 0 (repRow N p 0) 3 (madeRow w N p) [.int .i64 p] (by simp [Nat.min_def]; omega) (fun _ => ⟨rfl, _, rfl, src_one _ hb HC.out⟩) (by rw [repRow_length p (Nat.zero_le _)]; simp; omega) (one_map [p]) w.heap.size w (by go_grown) (Nat.le_refl _) ?_))
  intro w1 hg1 hb1
  rw [show ([Value.int .i64 p] : List Value) = (List.replicate 1 p).map (Value.int .i64) from rfl, repRow_splice p (by omega)] at hg1
  clear hmk
  go_wp2_with fail
  go_loopw [8] (fun i wr => ∃ k : Nat, 1 ≤ k ∧ k ≤ N ∧ i = .int .i64 k ∧ Hid (wr.heap[w.heap.size]? = some (.cells (repRow N p k).toArray 3 (0, 0))) ∧ Below w.heap.size w wr) (fun i _ => N - (intOf i).toNat)
  case atStart => exact ⟨1, by omega, h1, rfl, hg1, hb1⟩
  case round =>
    clear hg1
    obtain ⟨k, hk1, hk2, rfl, GR, hB⟩ := hrel
    by_cases hlt : k < N
    · have e1 : ((k : Int) : Int) < (N : Int) := by omega
      obtain ⟨m, hm⟩ : ∃ m, m = Nat.min k (N - k) := ⟨_, rfl⟩
      have m1 : m ≤ k := by rw [hm]; exact Nat.min_le_left _ _
      have m2 : k + m ≤ N := by have := Nat.min_le_right k (N - k); have e : m ≤ N - k := by rw [hm]; exact this
                                omega
      have m3 : 1 ≤ m := by rw [hm]; simp only [Nat.min_def]; split <;> omega
      have HM := Lib.hid hm
      clear hm
      have hw : IntKind.i64.wrap ((k : Int) + (m : Int)) = (k : Int) + (m : Int) := IntWalk.i64_in _ ⟨by omega, by omega⟩
      go_wp2_with fail
      refine regionL (S := (fun _ => True)) (L := 10) (by kernel_rfl) ?_ (fun hHeld => ?_)
      · trivial
      refine takeL (i := 0) (oi := ?_) (v := ?_) ?_ (by kernel_rfl) (by kernel_rfl) (by kernel_rfl) (by kernel_rfl) ?_ (Or.inl ⟨?_, ?_⟩) (by assumption) ?_
      rotate_left 2
      · (simp only [List.getElem?_toArray, List.getElem?_cons_succ, List.getElem?_cons_zero]; rfl)
      · exact fun _ _ _ h => h
      · rfl
      · (intro w hSw; (try dsimp only at hSw); go_simp; (try with_reducible rfl))
      try simp only [Act.put, List.setIfInBounds_toArray, List.set_cons_zero, List.set_cons_succ]
      refine takeL (i := 1) (oi := ?_) (v := ?_) ?_ (by kernel_rfl) (by kernel_rfl) (by kernel_rfl) (by kernel_rfl) ?_ (Or.inl ⟨?_, ?_⟩) (by assumption) ?_
      rotate_left 2
      · (simp only [List.getElem?_toArray, List.getElem?_cons_succ, List.getElem?_cons_zero]; rfl)
      · exact fun _ _ _ h => h
      · rfl
      · (intro w hSw; (try dsimp only at hSw); go_simp; (try with_reducible rfl))
      try simp only [Act.put, List.setIfInBounds_toArray, List.set_cons_zero, List.set_cons_succ]
      refine takeL (i := 2) (oi := ?_) (v := ?_) ?_ (by kernel_rfl) (by kernel_rfl) (by kernel_rfl) (by kernel_rfl) ?_ (Or.inl ⟨?_, ?_⟩) (by assumption) ?_
      rotate_left 2
      · (simp only [List.getElem?_toArray, List.getElem?_cons_succ, List.getElem?_cons_zero]; rfl)
      · exact fun _ _ _ h => h
      · rfl
      · (intro w hSw; (try dsimp only at hSw); go_simp; (try with_reducible rfl))
      try simp only [Act.put, List.setIfInBounds_toArray, List.set_cons_zero, List.set_cons_succ]
      refine takeL (i := 3) (oi := ?_) (v := ?_) ?_ (by kernel_rfl) (by kernel_rfl) (by kernel_rfl) (by kernel_rfl) ?_ (Or.inl ⟨?_, ?_⟩) (by assumption) ?_
      rotate_left 2
      · (simp only [List.getElem?_toArray, List.getElem?_cons_succ, List.getElem?_cons_zero]; rfl)
      · exact fun _ _ _ h => h
      · rfl
      · (intro w hSw; (try dsimp only at hSw); go_simp; (try with_reducible rfl))
      try simp only [Act.put, List.setIfInBounds_toArray, List.set_cons_zero, List.set_cons_succ]
      refine takeL (i := 4) (oi := ?_) (v := ?_) ?_ (by kernel_rfl) (by kernel_rfl) (by kernel_rfl) (by kernel_rfl) ?_ (Or.inl ⟨?_, ?_⟩) (by assumption) ?_
      rotate_left 2
      · (simp only [List.getElem?_toArray, List.getElem?_cons_succ, List.getElem?_cons_zero]; rfl)
      · exact fun _ _ _ h => h
      · rfl
      · (intro w hSw; (try dsimp only at hSw); go_simp; (try with_reducible rfl))
      try simp only [Act.put, List.setIfInBounds_toArray, List.set_cons_zero, List.set_cons_succ]
      refine takeL (i := 5) (oi := ?_) (v := ?_) ?_ (by kernel_rfl) (by kernel_rfl) (by kernel_rfl) (by kernel_rfl) ?_ (Or.inl ⟨?_, ?_⟩) (by assumption) ?_
      rotate_left 2
      · (simp only [List.getElem?_toArray, List.getElem?_cons_succ, List.getElem?_cons_zero]; rfl)
      · exact fun _ _ _ h => h
      · rfl
      · (intro w hSw; (try dsimp only at hSw); go_simp; (try with_reducible rfl))
      try simp only [Act.put, List.setIfInBounds_toArray, List.set_cons_zero, List.set_cons_succ]
      refine takeL (i := 6) (oi := ?_) (v := ?_) ?_ (by kernel_rfl) (by kernel_rfl) (by kernel_rfl) (by kernel_rfl) ?_ (Or.inl ⟨?_, ?_⟩) (by assumption) ?_
      rotate_left 2
      · (simp only [List.getElem?_toArray, List.getElem?_cons_succ, List.getElem?_cons_zero]; rfl)
      · exact fun _ _ _ h => h
      · rfl
      · (intro w hSw; (try dsimp only at hSw); go_simp; (try with_reducible rfl))
      try simp only [Act.put, List.setIfInBounds_toArray, List.set_cons_zero, List.set_cons_succ]
      refine readyL (rs := [7]) (by kernel_rfl) (by simp) ?_
      refine AllReadyL.cons (o := ?_) ?_ (fun K hK => ?_) AllReadyL.none_
      rotate_left
      · (simp only [List.getElem?_toArray, List.getElem?_cons_succ, List.getElem?_cons_zero]; rfl)
      refine step_copy_splice rfl (.tmp 41) (.tmp 44) 22 22 rfl 3 Try.underlying22 Try.infoInt1 _ _ _ _ _ _ (by rfl) (by rfl) w.heap.size k (repRow N p k) 3 GR.out ((List.replicate m p).map (Value.int .i64)) ?_ (fun _ => ⟨?_, _, rfl, src_row GR.out m1⟩) (by rw [repRow_length p hk2]; simp; omega) (one_map _) w.heap.size w (by go_grown) (Nat.le_refl _) ?_
      · simpa using HM.out
      · (simp [Addr.add]; try omega)
      intro w2 hg2 hb2
      rw [repRow_splice p m2] at hg2
      simp only [List.length_map, List.length_replicate]
      refine hK.out _ _ ?_ (fun hHeld => ?_)
      · trivial
      clear hK K
      try simp only [Act.put, List.setIfInBounds_toArray, List.set_cons_zero, List.set_cons_succ]
      refine takeL (i := 8) (oi := ?_) (v := ?_) ?_ (by kernel_rfl) (by kernel_rfl) (by kernel_rfl) (by kernel_rfl) ?_ (Or.inl ⟨?_, ?_⟩) (by assumption) ?_
      rotate_left 2
      · (simp only [List.getElem?_toArray, List.getElem?_cons_succ, List.getElem?_cons_zero]; rfl)
      · exact fun _ _ _ h => h
      · rfl
      · (intro w hSw; (try dsimp only at hSw); go_simp; (try with_reducible rfl))
      try simp only [Act.put, List.setIfInBounds_toArray, List.set_cons_zero, List.set_cons_succ]
      refine takeL (i := 9) (oi := ?_) (v := ?_) ?_ (by kernel_rfl) (by kernel_rfl) (by kernel_rfl) (by kernel_rfl) ?_ (Or.inl ⟨?_, ?_⟩) (by assumption) ?_
      rotate_left 2
      · (simp only [List.getElem?_toArray, List.getElem?_cons_succ, List.getElem?_cons_zero]; rfl)
      · exact fun _ _ _ h => h
      · rfl
      · (intro w hSw; (try dsimp only at hSw); go_simp; (try with_reducible rfl))
      try simp only [Act.put, List.setIfInBounds_toArray, List.set_cons_zero, List.set_cons_succ]
      refine doneL (by kernel_rfl) ?_ _
      clear hw
      go_wp2_with fail
      go_roundw
      case rel => exact ⟨k + m, by omega, m2, by go_num, hg2, hb2⟩
      case measure => simp [intOf]; omega
    · obtain rfl : k = N := by omega
      go_wp2_with fail
      go_ret
      exact ⟨rfl, by show _ = _; rw [← repRow_full]; exact GR.out, hB⟩
end Go.Proofs.Ytbgemonpkncldaa
