/- Contracts: NewImage, both sides. -/
import Derived.Test.YtmjjepgnciibcaaAcc
import Derived.Test.YtmjjepgnciibcaaRep
namespace Go.Proofs.Ytmjjepgnciibcaa
open Go.RowKit
set_option linter.unusedVariables false
set_option linter.unusedSimpArgs false
theorem Ints.of_block {w : World} {g : Nat} {zs : List Int} (h : w.heap[g]? = some (.cells (zs.map (Value.int .i64)).toArray 3 (0, 0))) (hn : zs.length ≤ maxLen) : Ints w g (g + 1) (.slice (some ⟨g, 0, none⟩) zs.length zs.length) zs := by
  have hlt : g < w.heap.size := (Array.getElem?_eq_some_iff.1 h).1
  exact ⟨⟨by simp, .inr ⟨g, zs.length, _, rfl, Nat.le_refl _, h, Nat.le_refl _, hn, by simp, by simp [List.take_of_length_le]⟩⟩, fun k hk => by simp [Value.ownBlock] at hk; omega, hlt⟩
theorem Pl.new_bad {w h p : Int} (hb : (inB w 1 16 && inB h 1 16 && isPix p) = false) : Pl.Img.zero = Pl.newImage w h p := by
  unfold Pl.newImage
  rw [hb]
  rfl
open Pl in
theorem Pl.new_ok {X Y : Nat} {p : Int} (h1 : inB X 1 16 = true) (h2 : inB Y 1 16 = true) (h3 : isPix p = true) : (⟨X, Y, List.replicate (X * Y) p⟩ : Pl.Img) = Pl.newImage X Y p := by
  unfold Pl.newImage
  rw [h1, h2, h3, ← Int.natCast_mul, Int.toNat_natCast]
  rfl
theorem Try.infoInt4 : (Try.prog.info? 3).map (fun i => (i.zero, i.size, i.bytes)) = some (some (.int .i64 0), 1, 8) := by kernel_rfl
theorem one_one1 {k : IntKind} (z : Int) : ∀ u ∈ [Value.int k z], u.oneCell' = true := by intro u hu; simp at hu; subst hu; rfl
set_option maxHeartbeats 2000000 in
theorem specNewImage (W H p : Int) (w : World) : Calls Try.prog 74 #[.int .i64 W, .int .i64 H, .int .i64 p] w (NewImg (Pl.newImage W H p) w) := by
  cases hb : (Pl.inB W 1 16 && Pl.inB H 1 16 && Pl.isPix p)
  case false =>
    have HV := Lib.hid (Pl.new_bad hb)
    cases h1 : Pl.inB W 1 16 <;> cases h2 : Pl.inB H 1 16 <;> cases h3 : Pl.isPix p <;> simp only [h1, h2, h3, Bool.and_self, Bool.and_true, Bool.and_false, Bool.true_and, Bool.false_and] at hb <;> (first | (cases hb; done) | skip)
    all_goals
      clear hb
      go_enter Try.func74, Try.ntmps74
      go_wp2_with (first | (go_at_call 60; ((with_reducible refine (l01In_any _ _ _ _).mono ?_)); rintro e w' ⟨rfl, rfl⟩) | (go_at_call 51; ((with_reducible refine (l04Pixel_any _ _).mono ?_)); rintro e w' ⟨rfl, rfl⟩))
      refine bodyPost_ret (v := .agg #[.int .i64 0, .int .i64 0, .slice none 0 0]) (by simp [results, Try.results74, go_sem]) rfl ?_
      rw [← HV.out]
      exact ⟨none, 0, rfl, Own.nil _ _ _ _ _ (Nat.le_refl _), by go_grown⟩
  simp only [Bool.and_eq_true] at hb
  obtain ⟨⟨h1, h2⟩, h3⟩ := hb
  have ⟨x1, x2⟩ := Pl.inB_t h1
  have ⟨y1, y2⟩ := Pl.inB_t h2
  obtain ⟨X, rfl⟩ := Int.eq_ofNat_of_zero_le (show 0 ≤ W by omega)
  obtain ⟨Y, rfl⟩ := Int.eq_ofNat_of_zero_le (show 0 ≤ H by omega)
  have HV := Lib.hid (Pl.new_ok h1 h2 h3)
  have hN : X * Y ≤ 256 := by have := Nat.mul_le_mul (show X ≤ 16 by omega) (show Y ≤ 16 by omega); omega
  have e1 : (X : Int) * (Y : Int) = ((X * Y : Nat) : Int) := (Int.natCast_mul X Y).symm
  generalize X * Y = N at *
  obtain ⟨i0, hi0, hz0, hz1, hz2⟩ := info_parts Try.infoInt4
  go_enter Try.func74, Try.ntmps74
  go_wp2_with (first | (go_at_call 60; ((with_reducible refine (l01In_any _ _ _ _).mono ?_)); rintro e w' ⟨rfl, rfl⟩) | (go_at_call 51; ((with_reducible refine (l04Pixel_any _ _).mono ?_)); rintro e w' ⟨rfl, rfl⟩))
  have A0 : AccE (w.alloc (.cells #[.int .i64 0, .int .i64 0, .slice none 0 0] 30)) ((w.alloc (.cells #[.int .i64 0, .int .i64 0, .slice none 0 0] 30)).alloc (.cells #[.int .i64 X, .int .i64 Y, .slice none 0 0] 30)) (w.heap.size + 1) (w.heap.size + 1) X Y [] := ⟨_, by simp [go_sem], by simp [go_sem], by simp [go_sem], by simp [go_sem], World.ownsRow_nil _ _ _ _, by simp [Value.ownBlock], by omega, by go_grown, by simp⟩
  go_loopw [8] (fun i wr => ∃ k : Nat, k ≤ N ∧ i = .int .i64 k ∧ AccE (w.alloc (.cells #[.int .i64 0, .int .i64 0, .slice none 0 0] 30)) wr (w.heap.size + 1) (w.heap.size + 1) X Y (List.replicate k p)) (fun i _ => N - (intOf i).toNat)
  case atStart => exact ⟨0, by omega, rfl, by simpa using A0⟩
  case round =>
    clear A0
    obtain ⟨k, hk, rfl, hacc⟩ := hrel
    by_cases hlt : k < N
    · obtain ⟨v, hv⟩ := hacc
      have HAV := Lib.hid hv
      obtain ⟨v0, v1, v2, v3, v4, v5, v6, v7, v8⟩ := hv
      have OW := Lib.hid v4
      have vd : ∀ o, (wr.alloc o).cell? ⟨w.heap.size + 1, 2, none⟩ = some v := fun o => (cell_old (w := wr) v8).trans v2
      clear v4 v5
      go_wp2_with (at_builtin; refine wpList_append_lies _ rfl _ _ _ rfl (w.heap.size + 1) 3 i0 (.int .i64 0) 1 8 Try.underlying22 hi0 hz0 hz1 hz2 rfl (by omega) v (List.replicate k p).length _ rfl (World.ownsRow.alloc OW.out _) ⟨wr.heap.size, 0, none⟩ 1 1 [.int .i64 p] rfl rfl (World.news_of_block (cs := #[.int .i64 p]) (t := 3) (fr := (0, 0)) (heap_alloc_new wr _)) (one_one1 _) (by omega) (by simp [maxLen]; omega) (by simp; omega) (by simp; omega) (wr.heap.size + 1) (by simp) ?_)
      intro gg cap w2 hown2 hgrow2 hat2 hlt7
      have ⟨cb2, fb2⟩ := HAV.out.after ((Below.refl _ _).alloc (Nat.le_refl _) _) hgrow2
      go_wp2_with fail
      have PU := HAV.out.push (d := List.replicate k p) (z := p) (cap := cap) ((Below.refl _ _).alloc (Nat.le_refl _) _) (by simpa using hown2) hgrow2 hat2 (by omega)
      simp only [List.length_replicate] at PU
      rw [← List.replicate_succ'] at PU
      go_roundw
      case rel => exact ⟨k + 1, by omega, by go_num, PU⟩
      case measure => simp [intOf]; omega
    · obtain rfl : k = N := by omega
      obtain ⟨v, hv⟩ := hacc
      obtain ⟨v0, v1, v2, v3, v4, v5, v6, v7, v8⟩ := hv
      obtain ⟨A1, c1, rfl, _⟩ := (Own.of_row v4).shape
      have OW := Lib.hid v4
      clear v4 v5
      have ⟨r0, f0⟩ := keepc v7 w.heap.size (by omega)
      go_wp2_with fail
      have B2 : Below w.heap.size w wr := (by go_grown : Below w.heap.size w (w.alloc (.cells #[.int .i64 0, .int .i64 0, .slice none 0 0] 30))).trans (v7.mono (by omega))
      refine bodyPost_ret (v := .agg #[.int .i64 (X : Int), .int .i64 (Y : Int), .slice A1 k c1]) (by simp [results, Try.results74, go_sem, r0]) rfl ?_
      rw [← HV.out]
      refine ⟨A1, c1, by simp, ?_, by go_grown⟩
      have h := Own.far (Own.far (Own.far (Own.of_row OW.out) (p := ⟨w.heap.size, 0, none⟩) (.inl (by simp)) (.int .i64 X)) (p := ⟨w.heap.size, 1, none⟩) (.inl (by simp)) (.int .i64 Y)) (p := ⟨w.heap.size, 2, none⟩) (.inl (by simp)) (.slice A1 k c1)
      simp only [List.length_replicate] at h ⊢
      have h3 := Own.mono (lo' := w.heap.size) h (by omega) (Nat.le_refl _) (by simp [World.setCell])
      unfold Ints
      simpa [World.setCell] using h3
end Go.Proofs.Ytmjjepgnciibcaa
