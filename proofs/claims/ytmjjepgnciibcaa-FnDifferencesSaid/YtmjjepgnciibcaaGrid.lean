/- Contracts: the grids' operators. -/
import Derived.Test.YtmjjepgnciibcaaGridW
namespace Go.Proofs.Ytmjjepgnciibcaa
open Go.RowKit
set_option linter.unusedVariables false
set_option linter.unusedSimpArgs false
attribute [local irreducible] gcells
set_option maxHeartbeats 4000000 in
theorem gridOr (m n : Nat → Nat) (hm : ∀ y, y < 16 → m y < 65536) (hn : ∀ y, y < 16 → n y < 65536) (w : World) :
    Calls Try.prog 71 #[.agg (gcells m), .agg (gcells n)] w fun e w' => e = .returned (.agg (gcells fun y => m y ||| n y)) ∧ Below w.heap.size w w' := by
  go_enter Try.func71, Try.ntmps71
  go_wp2_with fail
  go_loopw [6] (fun i wr => ∃ k : Nat, k ≤ 16 ∧ i = .int .i64 k ∧ Hid (GB wr w.heap.size (fun y => if y < k then m y ||| n y else m y)) ∧ Hid (GB wr (w.heap.size + 1) n) ∧ Hid (GB wr (w.heap.size + 1 + 1) (fun _ => 0)) ∧ Hid (Below w.heap.size w wr)) (fun i _ => 16 - (intOf i).toNat)
  case atStart =>
    refine ⟨0, by omega, rfl, Lib.hid ?_, Lib.hid ?_, Lib.hid ?_, Lib.hid (by go_grown)⟩
    · exact (((GB.new rfl).alloc _).alloc _).congr fun y _ => by simp
    · exact (GB.new (by simp)).alloc _
    · rw [← gcells_zero]; exact GB.new (by simp)
  case round =>
    obtain ⟨k, hk, rfl, h1, h2, h3, hB⟩ := hrel
    by_cases hlt : k < 16
    · have c1 := h1.out.cell hlt
      have c2 := h2.out.cell hlt
      have f1 := h1.out.frozen k
      have e1 : (if k < k then m k ||| n k else m k) = m k := if_neg (by omega)
      have hp0 : (0 : Int) ≤ (k : Int) := Int.natCast_nonneg _
      have hp1 : (k : Int) < 16 := by omega
      have hop : bits .or .i64 (m k : Int) (n k : Int) = ((m k ||| n k : Nat) : Int) := i64_or (by have := hm k hlt; omega) (by have := hn k hlt; omega)
      simp only [e1] at c1
      go_wp2_with fail
      go_region
      go_wp2_with fail
      go_roundw
      case rel =>
        refine ⟨k + 1, by omega, by go_num, Lib.hid ?_, Lib.hid (GB.drew (h2.out.far _ _ (by simp))), Lib.hid (GB.drew (h3.out.far _ _ (by show w.heap.size + 1 + 1 ≠ w.heap.size; omega))), Lib.hid (Below.drew (hB.out.setCell (Nat.le_refl _) _))⟩
        refine GB.drew ((h1.out.set hlt (m k ||| n k)).congr fun y _ => ?_)
        by_cases e : y = k
        · subst e; simp
        · by_cases e2 : y < k
          · simp [e, e2]; omega
          · simp [e, e2]; omega
      case measure => simp [intOf]; omega
    · obtain rfl : k = 16 := by omega
      have g1 := h1.out.congr (n := fun y => m y ||| n y) fun y hy => if_pos hy
      go_wp2_with (first
        | (refine wpList_gload _ rfl rfl rfl g1 ?_)
        | (refine wpList_gstore (fun y => m y ||| n y) _ _ rfl rfl rfl rfl h3.out ?_; intro w9 G9 O9 S9))
      exact bodyPost_ret (gresult rfl rfl G9) rfl ⟨rfl, hB.out.trans (O9.below (by omega) (by have := hB.out.size; omega))⟩
end Go.Proofs.Ytmjjepgnciibcaa
