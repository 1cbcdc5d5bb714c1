/- Contracts: IdentityColor, and the laws' helpers over color maps. -/
import Derived.Test.YtadghhajegpaiaaSl
import Derived.Test.YtadghhajegpaiaaBox
namespace Go.Proofs.Ytadghhajegpaiaa.Pl
def diag : List Int := [256, 0, 0, 0, 256, 0, 0, 0, 256]
def steps16 (k : Nat) : List Int := (List.range k).map fun (i : Nat) => 16 * (i : Int)
theorem steps16_length (k : Nat) : (steps16 k).length = k := by simp [steps16]
theorem steps16_snoc (k : Nat) : steps16 k ++ [16 * (k : Int)] = steps16 (k + 1) := by simp [steps16, List.range_succ]
end Go.Proofs.Ytadghhajegpaiaa.Pl
namespace Go.Proofs.Ytadghhajegpaiaa
open Go.RowKit

/-- What an append leaves in a variable's block: the row has grown, all blocks below 'base' are as they were. -/
theorem grown_keep {w w' : World} {v : Value} {base : Nat} {e : TypeId} {size n : Nat} {xs : List Value} (hown : w.ownsRow base e size v n xs) (hg : w.grownBy w' v.ownBlock) (hb : base ≤ w.heap.size) : Below base w w' :=
  ⟨hg.os, hg.tape, hg.output, hg.size, fun k hk => hg.block k (by omega) (fun h => by have := hown.lt k h.symm; omega)⟩
def TwoInts (lo mid hi : Nat) (w : World) (A1 A2 : Option Addr) (c1 c2 : Nat) (xs ys : List Int) : Prop := Ints w lo mid (.slice A1 xs.length c1) xs ∧ Ints w mid hi (.slice A2 ys.length c2) ys
/-- A new color map. -/
def NewCol (xs ys : List Int) (w : World) (e : Ending) (w' : World) : Prop := ∃ A1 c1 A2 c2 mid, e = .returned (.agg #[.slice A1 xs.length c1, .slice A2 ys.length c2]) ∧ Ints w' w.heap.size mid (.slice A1 xs.length c1) xs ∧ Ints w' mid w'.heap.size (.slice A2 ys.length c2) ys ∧ w.heap.size ≤ mid ∧ mid ≤ w'.heap.size ∧ Below w.heap.size w w'
set_option maxHeartbeats 2000000 in
theorem specIdentityColor (w : World) : Calls Try.prog 45 #[] w (NewCol Pl.diag (Pl.steps16 17) w) := by
  obtain ⟨i0, hi, hz0, hz1, hz2⟩ := info_parts Try.infoInt
  go_enter Try.func45, Try.ntmps45
  go_wp2_with fail
  go_loopw [2] (fun i wr => ∃ (k : Nat) (v : Value), k ≤ 17 ∧ i = .int .i64 k ∧ wr.cell? ⟨w.heap.size + 1 + 1, 0, none⟩ = some (.slice (some ⟨w.heap.size + 1, 0, none⟩) 9 9) ∧ wr.cell? ⟨w.heap.size + 1 + 1, 1, none⟩ = some v ∧ wr.frozen? ⟨w.heap.size + 1 + 1, 1, none⟩ = false ∧ wr.cell? ⟨w.heap.size, 0, none⟩ = some (.slice none 0 0) ∧ wr.cell? ⟨w.heap.size, 1, none⟩ = some (.slice none 0 0) ∧ wr.frozen? ⟨w.heap.size, 0, none⟩ = false ∧ wr.frozen? ⟨w.heap.size, 1, none⟩ = false ∧ Hid (wr.ownsRow (w.heap.size + 3) 3 1 v k ((Pl.steps16 k).map (Value.int .i64))) ∧ Hid (Ints wr (w.heap.size + 1) (w.heap.size + 2) (.slice (some ⟨w.heap.size + 1, 0, none⟩) 9 9) Pl.diag) ∧ Below w.heap.size w wr ∧ w.heap.size + 3 ≤ wr.heap.size) (fun i _ => 17 - (intOf i).toNat)
  case atStart =>
    refine ⟨0, .slice none 0 0, by omega, rfl, by simp [go_sem], by simp [go_sem], by simp [go_sem], by simp [go_sem], by simp [go_sem], by simp [go_sem], by simp [go_sem], World.ownsRow_nil _ _ _ _, ?_, by go_grown, by simp⟩
    have h := World.ownsRow_lit (base := w.heap.size + 1) (e := 3) (size := 1) (w.alloc (.cells #[.slice none 0 0, .slice none 0 0] 54)) #[.int .i64 256, .int .i64 0, .int .i64 0, .int .i64 0, .int .i64 256, .int .i64 0, .int .i64 0, .int .i64 0, .int .i64 256] 9 (by simp) (by decide) rfl
    rw [World.size_alloc] at h
    exact Own.alloc (Own.mono (hi' := w.heap.size + 2) (Own.of_row h) (Nat.le_refl _) (by simp) (by simp)) _
  case round =>
    obtain ⟨k, v, hk, rfl, q0, q1, q2, q3, q4, q5, q6, HO, HM, hB, hz⟩ := hrel
    by_cases hlt : k < 17
    · go_wp2_with (at_builtin; refine wpList_append_own _ rfl _ _ 44 rfl (w.heap.size + 3) 3 i0 (.int .i64 0) 1 8 Try.underlying44 hi hz0 hz1 hz2 rfl (by decide) _ _ _ rfl (HO.out.alloc _) ⟨wr.heap.size, 0, none⟩ 1 1 [.int .i64 (16 * (k : Int))] rfl rfl ?c1 ?c2 ?c3 ?c4 ?c5 ?_)
      case c1 =>
        intro j u hj
        match j, hj with
        | 0, hj => simp at hj; subst hj; simp [Addr.add]
      case c2 => intro u hu; simp at hu; subst hu; rfl
      case c3 => unfold maxLen; omega
      case c4 => omega
      case c5 => simp; omega
      intro v' w1 hown' hgrow _
      obtain ⟨A', c', rfl, _⟩ := (Own.of_row hown').shape
      have hk1 := grown_keep (HO.out.alloc _) hgrow (by simp; omega)
      have ⟨k0, f0⟩ := keepc hk1 (w.heap.size) (by omega)
      have ⟨k1, f1⟩ := keepc hk1 (w.heap.size + 1 + 1) (by omega)
      have l0 : w.heap.size < wr.heap.size := by omega
      have l1 : w.heap.size + 1 + 1 < wr.heap.size := by omega
      have HO1 := Lib.hid hown'
      have s1 := hk1.size
      have HM1 := Lib.hid (Ints.below (Own.alloc HM.out _) hk1 (by omega))
      have B1 : Below w.heap.size w w1 := (hB.alloc (by omega) _).trans (hk1.mono (by omega))
      clear hown' hgrow HO HM hk1
      (try simp at s1)
      go_wp2_with fail
      go_roundw
      case rel => exact ⟨k + 1, .slice A' (k + 1) c', by omega, by go_num, by simp [go_sem, *], by simp [go_sem, *], by simp [go_sem, *], by simp [go_sem, *], by simp [go_sem, *], by simp [go_sem, *], by simp [go_sem, *], by have := ownsRow_setCell_below HO1.out (a := ⟨w.heap.size + 1 + 1, 1, none⟩) (by simp) (.slice A' (k + 1) c'); rw [← Pl.steps16_snoc, List.map_append]; exact this, Own.far HM1.out (by simp) _, by go_grown, by simp [World.setCell]; omega⟩
      case measure => simp [intOf]; omega
    · obtain rfl : k = 17 := by omega
      obtain ⟨A, cp, rfl, _⟩ := (Own.of_row HO.out).shape
      go_wp2_with fail
      refine bodyPost_ret (v := .agg #[.slice (some ⟨w.heap.size + 1, 0, none⟩) 9 9, .slice A 17 cp]) (by simp [results, Try.results45, go_sem, q3, q4]) rfl ⟨_, _, A, cp, w.heap.size + 2, rfl, ?_, ?_, by omega, by simp [World.setCell]; omega, by go_grown⟩
      · exact Own.mono (Own.far (Own.far HM.out (by simp) _) (by simp) _) (by omega) (by omega) (by simp [World.setCell]; omega)
      · have h := Own.far (Own.far (Own.of_row HO.out) (p := ⟨w.heap.size, 0, none⟩) (by simp) (.slice (some ⟨w.heap.size + 1, 0, none⟩) 9 9)) (p := ⟨w.heap.size, 1, none⟩) (by simp) (.slice A 17 cp)
        exact Own.mono h (by omega) (by simp [World.setCell]) (by simp [World.setCell])
set_option maxHeartbeats 2000000 in
theorem implIdentityColor (w : World) : Calls Try.prog 46 #[] w (NewCol Pl.diag (Pl.steps16 17) w) := by
  obtain ⟨i0, hi, hz0, hz1, hz2⟩ := info_parts Try.infoInt
  go_enter Try.func46, Try.ntmps46
  go_wp2_with fail
  go_loopw [5] (fun i wr => ∃ (k : Nat) (v : Value), k ≤ 17 ∧ i = .int .i64 k ∧ wr.cell? ⟨w.heap.size + 1 + 1, 0, none⟩ = some (.slice (some ⟨w.heap.size + 1, 0, none⟩) 9 9) ∧ wr.cell? ⟨w.heap.size + 1 + 1, 1, none⟩ = some v ∧ wr.frozen? ⟨w.heap.size + 1 + 1, 1, none⟩ = false ∧ wr.cell? ⟨w.heap.size, 0, none⟩ = some (.slice none 0 0) ∧ wr.cell? ⟨w.heap.size, 1, none⟩ = some (.slice none 0 0) ∧ wr.frozen? ⟨w.heap.size, 0, none⟩ = false ∧ wr.frozen? ⟨w.heap.size, 1, none⟩ = false ∧ Hid (wr.ownsRow (w.heap.size + 3) 3 1 v k ((Pl.steps16 k).map (Value.int .i64))) ∧ Hid (Ints wr (w.heap.size + 1) (w.heap.size + 2) (.slice (some ⟨w.heap.size + 1, 0, none⟩) 9 9) Pl.diag) ∧ Below w.heap.size w wr ∧ w.heap.size + 3 ≤ wr.heap.size) (fun i _ => 17 - (intOf i).toNat)
  case atStart =>
    refine ⟨0, .slice none 0 0, by omega, rfl, by simp [go_sem], by simp [go_sem], by simp [go_sem], by simp [go_sem], by simp [go_sem], by simp [go_sem], by simp [go_sem], World.ownsRow_nil _ _ _ _, ?_, by go_grown, by simp⟩
    have h := World.ownsRow_lit (base := w.heap.size + 1) (e := 3) (size := 1) (w.alloc (.cells #[.slice none 0 0, .slice none 0 0] 54)) #[.int .i64 256, .int .i64 0, .int .i64 0, .int .i64 0, .int .i64 256, .int .i64 0, .int .i64 0, .int .i64 0, .int .i64 256] 9 (by simp) (by decide) rfl
    rw [World.size_alloc] at h
    exact Own.alloc (Own.mono (hi' := w.heap.size + 2) (Own.of_row h) (Nat.le_refl _) (by simp) (by simp)) _
  case round =>
    obtain ⟨k, v, hk, rfl, q0, q1, q2, q3, q4, q5, q6, HO, HM, hB, hz⟩ := hrel
    by_cases hlt : k < 17
    · go_wp2_with (at_builtin; refine wpList_append_own _ rfl _ _ 44 rfl (w.heap.size + 3) 3 i0 (.int .i64 0) 1 8 Try.underlying44 hi hz0 hz1 hz2 rfl (by decide) _ _ _ rfl (HO.out.alloc _) ⟨wr.heap.size, 0, none⟩ 1 1 [.int .i64 (16 * (k : Int))] rfl rfl ?c1 ?c2 ?c3 ?c4 ?c5 ?_)
      case c1 =>
        intro j u hj
        match j, hj with
        | 0, hj => simp at hj; subst hj; simp [Addr.add]
      case c2 => intro u hu; simp at hu; subst hu; rfl
      case c3 => unfold maxLen; omega
      case c4 => omega
      case c5 => simp; omega
      intro v' w1 hown' hgrow _
      obtain ⟨A', c', rfl, _⟩ := (Own.of_row hown').shape
      have hk1 := grown_keep (HO.out.alloc _) hgrow (by simp; omega)
      have ⟨k0, f0⟩ := keepc hk1 (w.heap.size) (by omega)
      have ⟨k1, f1⟩ := keepc hk1 (w.heap.size + 1 + 1) (by omega)
      have l0 : w.heap.size < wr.heap.size := by omega
      have l1 : w.heap.size + 1 + 1 < wr.heap.size := by omega
      have HO1 := Lib.hid hown'
      have s1 := hk1.size
      have HM1 := Lib.hid (Ints.below (Own.alloc HM.out _) hk1 (by omega))
      have B1 : Below w.heap.size w w1 := (hB.alloc (by omega) _).trans (hk1.mono (by omega))
      clear hown' hgrow HO HM hk1
      (try simp at s1)
      go_wp2_with fail
      go_roundw
      case rel => exact ⟨k + 1, .slice A' (k + 1) c', by omega, by go_num, by simp [go_sem, *], by simp [go_sem, *], by simp [go_sem, *], by simp [go_sem, *], by simp [go_sem, *], by simp [go_sem, *], by simp [go_sem, *], by have := ownsRow_setCell_below HO1.out (a := ⟨w.heap.size + 1 + 1, 1, none⟩) (by simp) (.slice A' (k + 1) c'); rw [← Pl.steps16_snoc, List.map_append]; exact this, Own.far HM1.out (by simp) _, by go_grown, by simp [World.setCell]; omega⟩
      case measure => simp [intOf]; omega
    · obtain rfl : k = 17 := by omega
      obtain ⟨A, cp, rfl, _⟩ := (Own.of_row HO.out).shape
      go_wp2_with fail
      refine bodyPost_ret (v := .agg #[.slice (some ⟨w.heap.size + 1, 0, none⟩) 9 9, .slice A 17 cp]) (by simp [results, Try.results46, go_sem, q3, q4]) rfl ⟨_, _, A, cp, w.heap.size + 2, rfl, ?_, ?_, by omega, by simp [World.setCell]; omega, by go_grown⟩
      · exact Own.mono (Own.far (Own.far HM.out (by simp) _) (by simp) _) (by omega) (by omega) (by simp [World.setCell]; omega)
      · have h := Own.far (Own.far (Own.of_row HO.out) (p := ⟨w.heap.size, 0, none⟩) (by simp) (.slice (some ⟨w.heap.size + 1, 0, none⟩) 9 9)) (p := ⟨w.heap.size, 1, none⟩) (by simp) (.slice A 17 cp)
        exact Own.mono h (by omega) (by simp [World.setCell]) (by simp [World.setCell])
end Go.Proofs.Ytadghhajegpaiaa
