/- Contracts of the laws' draws: lists of rectangles, regions. -/
import Derived.Test.YtlnailpefdlnnaaDrR
namespace Go.Proofs.Ytlnailpefdlnnaa
open Go.RowKit
set_option linter.unusedVariables false
set_option linter.unusedSimpArgs false
/-- A drawn list of rectangles: a new row, at most 4. -/
def DrawnRects (w : World) (g : Nat) (a : Option Addr) (len cap : Nat) (zs : List Int) (e : Ending) (w' : World) : Prop :=
  ∃ (rs : List Pl.R) (A : Option Addr) (c : Nat), rs.length ≤ 4 ∧ e = .returned (.slice A rs.length c) ∧ Recs w' w.heap.size w'.heap.size (.slice A rs.length c) rs ∧ Cursor w' g a len cap zs ∧ Out g (g + 1) w w'
set_option maxHeartbeats 4000000 in
theorem l03Rects_any (g : Nat) (a : Option Addr) (len cap : Nat) (zs : List Int) (w : World) (hc : Cursor w g a len cap zs) : Calls Try.prog 70 #[.pointer (some ⟨g, 0, none⟩)] w (DrawnRects w g a len cap zs) := by
  have HC := Lib.hid hc
  have hl := hc.lt
  clear hc
  obtain ⟨i0, hi0, hz0', hz1, hz2⟩ := info_parts Try.infoRect
  go_enter Try.func70, Try.ntmps70
  go_wp2_with fail
  have hlit : (w.alloc (.cells #[] 44 (0, 0))).ownsRow w.heap.size 44 4 (.slice (some ⟨w.heap.size, 0, none⟩) 0 0) 0 (rcells []) := World.ownsRow_lit (base := w.heap.size) (e := 44) (size := 4) w #[] 0 (Nat.le_refl _) (by unfold maxLen; omega) (by simp)
  refine (l01Below_any g a len cap zs _ _ (HC.out.alloc _) (by omega) (by omega)).mono ?_
  rintro e w1 ⟨v, ⟨m, m0, m1, rfl⟩, rfl, C1, O1⟩
  obtain ⟨j, rfl⟩ := Int.eq_ofNat_of_zero_le m0
  have R1 := Lib.hid (Own.out (Own.of_row hlit) O1 (by right; omega)).1
  have OO1 : Hid (Out g (g + 1) w w1) := Lib.hid (((Out.refl _ _ _).alloc _).trans O1)
  have D1 := Lib.hid C1
  have s1 := OO1.out.size
  clear C1 O1 hlit
  go_wp2_with fail
  go_loopw [3, 4] (fun so sk wr => ∃ (k : Nat) (d : List Pl.R) (v : Value), d.length + k ≤ 4 ∧ sk = .int .i64 k ∧ v = so ∧ Hid (wr.ownsRow w.heap.size 44 4 v d.length (rcells d)) ∧ Hid (Cursor wr g a len cap zs) ∧ Hid (Out g (g + 1) w wr)) (fun _ sk _ => (intOf sk).toNat)
  case atStart => exact ⟨j, [], _, by simp; omega, rfl, rfl, R1, D1, OO1⟩
  case round =>
    obtain ⟨k, d, v, hk, rfl, rfl, hR, hD, hO⟩ := hrel
    have kp0 : (0 : Int) ≤ (k : Int) := Int.natCast_nonneg _
    by_cases hlt : 0 < k
    · have kp1 : (0 : Int) < k := by omega
      go_wp2_with fail
      refine (l02Any_any g a len cap zs _ hD.out).mono ?_
      rintro e w2 ⟨vv, ⟨r, rfl⟩, rfl, C2, O2⟩
      have R2 := Lib.hid (Own.out (Own.of_row hR.out) O2 (by right; omega)).1
      have OO2 : Hid (Out g (g + 1) w w2) := Lib.hid (hO.out.trans O2)
      have D2 := Lib.hid C2
      have s2 := OO2.out.size
      clear C2 O2
      go_wp2_with (refine wpList_append_lies _ rfl _ _ 27 rfl w.heap.size 44 i0 (.agg #[.int .i64 0, .int .i64 0, .int .i64 0, .int .i64 0]) 4 32 Try.underlying27 hi0 hz0' hz1 hz2 rfl (by decide) v d.length _ rfl ((Own.alloc (Own.of_row R2.out) _).1) ⟨w2.heap.size, 0, none⟩ 1 1 (rc r) rfl rfl (World.news_of_block (heap_alloc_new _ _)) (rcells_one [r]) (by omega) (by unfold maxLen; omega) (by omega) (by have := s2; simp; omega) _ rfl ?_; intro gg cap3 w3 hown3 hgrow3 hat3 hlt3; have H3 := Lib.hid hown3; have K3 := Lib.hid hgrow3; have N3 := Lib.hid (R2.out.lt); clear hown3 hgrow3 hat3)
      have hfr : ∀ b, b < w.heap.size → w3.heap[b]? = w2.heap[b]? := fun b hb => (K3.out.block b (by simp; omega) (fun e => by have := N3.out b e.symm; omega)).trans (heap_alloc_old w2 _ (by omega))
      have s3 := K3.out.size
      simp at s3
      have HF := Lib.hid hfr
      clear hfr
      go_roundw
      case rel =>
        refine ⟨k - 1, d ++ [r], _, by simp; omega, by simp; omega, rfl, Lib.hid ?_, Lib.hid (D2.out.keep fun b hb => HF.out b (by omega)), Lib.hid ⟨K3.out.os.trans OO2.out.os, K3.out.tape.trans OO2.out.tape, K3.out.output.trans OO2.out.output, by omega, fun b hb hg => (HF.out b hb).trans (OO2.out.block b hb hg)⟩⟩
        rw [List.length_append, rcells_append]
        simpa [rcells] using H3.out
      case measure => simp [intOf]; omega
    · obtain rfl : k = 0 := by omega
      obtain ⟨A, c, rfl, _, _⟩ := Own.shape (Own.of_row hR.out)
      go_wp2_with fail
      go_ret
      exact ⟨d, A, c, by omega, rfl, Own.of_row hR.out, hD.out, hO.out⟩
end Go.Proofs.Ytlnailpefdlnnaa
