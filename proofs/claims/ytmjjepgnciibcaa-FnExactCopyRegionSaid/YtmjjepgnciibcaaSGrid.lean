/- Contract: the reference's grid of a list of rectangles. -/
import Derived.Test.YtmjjepgnciibcaaBls
import Derived.Test.YtmjjepgnciibcaaOrd
import Derived.Deep.CutBlock
namespace Go.Proofs.Ytmjjepgnciibcaa
open Go.RowKit
set_option linter.unusedVariables false
set_option linter.unusedSimpArgs false
theorem Try.infoBool : (Try.prog.info? 4).map (fun i => (i.zero, i.size, i.bytes)) = some (some (.bool false), 1, 1) := by kernel_rfl
theorem Pl.or_right (a : Bool) {b c : Bool} (h : b = c) : (a || b) = (a || c) := by rw [h]
theorem Pl.gridL_take {zs : List Pl.R} {k : Nat} {z : Pl.R} (h : zs[k]? = some z) (j i : Nat) : Pl.gridL (zs.take (k + 1)) j i = (Pl.gridL (zs.take k) j i || z.has i j) := by
  unfold Pl.gridL
  rw [Pl.take_snoc h, List.any_append]
  simp
set_option maxRecDepth 100000 in
set_option maxHeartbeats 4000000 in
theorem l03Grid_any (L : Option Addr) (n c : Nat) (zs : List Pl.R) (w : World) (HA : RArg w L zs) (hn : zs.length = n) (hb : n ≤ 9223372036854775807) : Calls Try.prog 42 #[.slice L n c] w (NewScr (Pl.gridL zs) w) := by
  have HN := Lib.hid hn
  have HL := Lib.hid HA
  clear HA hn
  obtain ⟨i0, hi0, hz0, hz1, hz2⟩ := info_parts Try.infoBool
  go_enter Try.func42, Try.ntmps42
  go_wp2_with (at_make; refine wpList_make_full _ rfl _ _ 56 rfl w.heap.size 4 i0 (.bool false) 1 Try.underlying56 hi0 hz0 hz1 _ _ _ _ 256 rfl rfl rfl rfl (by rw [hz2]; omega) (by unfold maxLen; omega) (Nat.le_refl _) ?_)
  intro w1 hown hgrow
  have O1 : Hid (Bls w1 w.heap.size w1.heap.size (.slice (some ⟨w.heap.size, 0, none⟩) 256 256) (Pl.flat (Pl.gridL (zs.take 0)))) := by
    have := Own.of_row hown
    rw [toList_madeCells_one] at this
    show Own _ _ _ _ _ _ _ _
    rw [Pl.flat_length, show Pl.gridL (zs.take 0) = fun _ _ => false from rfl, Pl.flat_none, List.map_replicate]
    exact this
  have B1 : Below w.heap.size w w1 := (Below.refl _ _).grown hgrow (Nat.le_refl _) (by simp)
  have hs1 : w.heap.size < w1.heap.size := by have := O1.out.at_ (k := 0) (by omega); obtain ⟨g, z, e, _, _, hg, _⟩ := this; injection e with e; injection e with e; omega
  clear hown hgrow hi0 hz0 hz1 hz2
  go_wp2_with fail
  go_loopw [5] (fun sk wr => ∃ k : Nat, k ≤ n ∧ sk = .int .i64 k ∧ Hid (Bls wr w.heap.size w1.heap.size (.slice (some ⟨w.heap.size, 0, none⟩) 256 256) (Pl.flat (Pl.gridL (zs.take k)))) ∧ Hid (VB wr w1.heap.size [.int .i64 0, .int .i64 0, .int .i64 16, .int .i64 16]) ∧ Hid (Below w.heap.size w wr)) (fun sk _ => n - (intOf sk).toNat)
  case atStart => exact ⟨0, by omega, rfl, Lib.hid (O1.out.alloc _), Lib.hid (VB.new (cs := [.int .i64 0, .int .i64 0, .int .i64 16, .int .i64 16]) rfl), Lib.hid (by go_grown)⟩
  case round =>
    obtain ⟨wo, rfl⟩ : ∃ wo : World, wo = wr := ⟨_, rfl⟩
    obtain ⟨k, hk, rfl, hS, hV, hB⟩ := hrel
    have kp0 : (0 : Int) ≤ (k : Int) := Int.natCast_nonneg _
    by_cases hlt : k < n
    · have kp1 : (k : Int) < n := by omega
      obtain ⟨g1, o1, z, rfl, lg, hz, p0, p1, p2, p3⟩ := (HL.out.below hB.out).at_ HN.out hlt
      have HZ := Lib.hid hz
      clear hz
      obtain ⟨A, Y, N, K, hi, hA, hY, hhas⟩ := Pl.inter_screen z
      have Hhas := Lib.hid hhas
      clear hhas
      obtain ⟨lv, v0, v1, v2, v3, _⟩ := hV.out.open4
      have lss : w1.heap.size < wo.heap.size := lv
      go_wp2_with fail
      go_cut [6] from 17 to 22 (fun s6 wx => ∃ b : Nat, s6 = .pointer (some ⟨b, 0, none⟩) ∧ wo.heap.size ≤ b ∧ Hid (VB wx b [.int .i64 A, .int .i64 Y, .int .i64 N, .int .i64 K]) ∧ Hid (Below wo.heap.size wo wx))
      case first =>
        refine regionL (S := (fun w' => w'.cell? ⟨g1, o1 + k * 4, none⟩ = some (.int .i64 z.x) ∧ w'.cell? ⟨g1, o1 + k * 4 + 1, none⟩ = some (.int .i64 z.y) ∧ w'.cell? ⟨g1, o1 + k * 4 + 2, none⟩ = some (.int .i64 z.w) ∧ w'.cell? ⟨g1, o1 + k * 4 + 3, none⟩ = some (.int .i64 z.h) ∧ w'.cell? ⟨w1.heap.size, 0, none⟩ = some (.int .i64 0) ∧ w'.cell? ⟨w1.heap.size, 1, none⟩ = some (.int .i64 0) ∧ w'.cell? ⟨w1.heap.size, 2, none⟩ = some (.int .i64 16) ∧ w'.cell? ⟨w1.heap.size, 3, none⟩ = some (.int .i64 16))) (L := 8) (by kernel_rfl) ?_ (fun hHeld => ?_)
        · (((try dsimp only); (repeat' apply And.intro) <;> (first | (simp only [World.cell?_drew, *]; done) | (simp (disch := (first | omega | (simp; omega))) only [cell_far, cell_old, World.cell?_drew, *]; done))))
        refine takeL (i := 0) (oi := ?_) (v := ?_) ?_ (by kernel_rfl) (by kernel_rfl) (by kernel_rfl) (by kernel_rfl) ?_ (Or.inl ⟨?_, ?_⟩) (by assumption) ?_
        rotate_left 2
        · (simp only [List.getElem?_toArray, List.getElem?_cons_succ, List.getElem?_cons_zero]; rfl)
        · exact fun _ _ _ h => h
        · rfl
        · (intro w hSw; (try dsimp only at hSw); go_simp; (try with_reducible rfl))
        try simp only [Act.put, List.setIfInBounds_toArray, List.set_cons_zero, List.set_cons_succ]
        refine takeL (i := 1) (oi := ?_) (v := ?_) ?_ (by kernel_rfl) (by kernel_rfl) (by kernel_rfl) (by kernel_rfl) ?_ (Or.inl ⟨?_, ?_⟩) (by assumption) ?_
        rotate_left 2
        · (simp only [List.getElem?_toArray, List.getElem?_cons_succ, List.getElem?_cons_zero]; rfl)
        · exact fun _ _ _ h => h
        · rfl
        · (intro w hSw; (try dsimp only at hSw); go_simp; (try with_reducible rfl))
        try simp only [Act.put, List.setIfInBounds_toArray, List.set_cons_zero, List.set_cons_succ]
        refine takeL (i := 2) (oi := ?_) (v := ?_) ?_ (by kernel_rfl) (by kernel_rfl) (by kernel_rfl) (by kernel_rfl) ?_ (Or.inl ⟨?_, ?_⟩) (by assumption) ?_
        rotate_left 2
        · (simp only [List.getElem?_toArray, List.getElem?_cons_succ, List.getElem?_cons_zero]; rfl)
        · exact fun _ _ _ h => h
        · rfl
        · (intro w hSw; (try dsimp only at hSw); go_simp; (try with_reducible rfl))
        try simp only [Act.put, List.setIfInBounds_toArray, List.set_cons_zero, List.set_cons_succ]
        refine takeL (i := 3) (oi := ?_) (v := ?_) ?_ (by kernel_rfl) (by kernel_rfl) (by kernel_rfl) (by kernel_rfl) ?_ (Or.inl ⟨?_, ?_⟩) (by assumption) ?_
        rotate_left 2
        · (simp only [List.getElem?_toArray, List.getElem?_cons_succ, List.getElem?_cons_zero]; rfl)
        · exact fun _ _ _ h => h
        · rfl
        · (intro w hSw; (try dsimp only at hSw); go_simp; (try with_reducible rfl))
        try simp only [Act.put, List.setIfInBounds_toArray, List.set_cons_zero, List.set_cons_succ]
        refine takeL (i := 4) (oi := ?_) (v := ?_) ?_ (by kernel_rfl) (by kernel_rfl) (by kernel_rfl) (by kernel_rfl) ?_ (Or.inl ⟨?_, ?_⟩) (by assumption) ?_
        rotate_left 2
        · (simp only [List.getElem?_toArray, List.getElem?_cons_succ, List.getElem?_cons_zero]; rfl)
        · exact fun _ _ _ h => h
        · rfl
        · (intro w hSw; (try dsimp only at hSw); go_simp; (try with_reducible rfl))
        try simp only [Act.put, List.setIfInBounds_toArray, List.set_cons_zero, List.set_cons_succ]
        refine readyL (rs := [5, 6]) (by kernel_rfl) (by simp) ?_
        refine AllReadyL.cons (o := ?_) ?_ (fun K hK => ?_) ?_
        rotate_left
        · (simp only [List.getElem?_toArray, List.getElem?_cons_succ, List.getElem?_cons_zero]; rfl)
        · go_simp
          go_at_call 52
          ((with_reducible refine (specIntersect z.x z.y z.w z.h 0 0 16 16 _).mono ?_))
          rw [show (Pl.R.mk z.x z.y z.w z.h) = z from rfl, hi]
          rintro e w9 ⟨rfl, B9⟩
          have ⟨k1, _⟩ := keepc B9 g1 (by simp; omega)
          have ⟨k2, _⟩ := keepc B9 w1.heap.size (by simp; omega)
          have BB9 : Hid (Below wo.heap.size wo w9) := Lib.hid (Below.trans (by go_grown) (B9.mono (by simp)))
          have s9 := BB9.out.size
          refine hK.out _ _ ?_ (fun hHeld => ?_)
          · (((try dsimp only); (repeat' apply And.intro) <;> (first | (simp only [World.cell?_drew, *]; done) | (simp (disch := (first | omega | (simp; omega))) only [cell_far, cell_old, World.cell?_drew, *]; done))))
          clear hK K
          try simp only [Act.put, List.setIfInBounds_toArray, List.set_cons_zero, List.set_cons_succ]
          refine readyL (rs := [6]) (by kernel_rfl) (by simp) ?_
          refine AllReadyL.cons (o := ?_) ?_ (fun K hK => ?_) AllReadyL.none_
          rotate_left
          · (simp only [List.getElem?_toArray, List.getElem?_cons_succ, List.getElem?_cons_zero]; rfl)
          go_simp
          refine hK.out _ _ ?_ (fun hHeld => ?_)
          · (((try dsimp only); (repeat' apply And.intro) <;> (first | (simp only [World.cell?_drew, *]; done) | (simp (disch := (first | omega | (simp; omega))) only [cell_far, cell_old, World.cell?_drew, *]; done))))
          clear hK K
          try simp only [Act.put, List.setIfInBounds_toArray, List.set_cons_zero, List.set_cons_succ]
          refine readyL (rs := [7]) (by kernel_rfl) (by simp) ?_
          refine AllReadyL.cons (o := ?_) ?_ (fun K hK => ?_) AllReadyL.none_
          rotate_left
          · (simp only [List.getElem?_toArray, List.getElem?_cons_succ, List.getElem?_cons_zero]; rfl)
          go_simp
          refine hK.out _ _ ?_ (fun hHeld => ?_)
          · (((try dsimp only); (repeat' apply And.intro) <;> (first | (simp only [World.cell?_drew, *]; done) | (simp (disch := (first | omega | (simp; omega))) only [cell_far, cell_old, World.cell?_drew, *]; done))))
          clear hK K
          try simp only [Act.put, List.setIfInBounds_toArray, List.set_cons_zero, List.set_cons_succ]
          refine doneL (by kernel_rfl) ?_ _
          go_wp2_with fail
          go_meet
          case rel => exact ⟨w9.heap.size, rfl, s9, Lib.hid (VB.new (cs := [.int .i64 A, .int .i64 Y, .int .i64 N, .int .i64 K]) rfl), Lib.hid (BB9.out.alloc s9 _)⟩
        refine AllReadyL.cons (o := ?_) ?_ (fun K hK => ?_) ?_
        rotate_left
        · (simp only [List.getElem?_toArray, List.getElem?_cons_succ, List.getElem?_cons_zero]; rfl)
        · go_simp
          refine hK.out _ _ ?_ (fun hHeld => ?_)
          · (((try dsimp only); (repeat' apply And.intro) <;> (first | (simp only [World.cell?_drew, *]; done) | (simp (disch := (first | omega | (simp; omega))) only [cell_far, cell_old, World.cell?_drew, *]; done))))
          clear hK K
          try simp only [Act.put, List.setIfInBounds_toArray, List.set_cons_zero, List.set_cons_succ]
          refine readyL (rs := [5]) (by kernel_rfl) (by simp) ?_
          refine AllReadyL.cons (o := ?_) ?_ (fun K hK => ?_) AllReadyL.none_
          rotate_left
          · (simp only [List.getElem?_toArray, List.getElem?_cons_succ, List.getElem?_cons_zero]; rfl)
          go_simp
          go_at_call 52
          ((with_reducible refine (specIntersect z.x z.y z.w z.h 0 0 16 16 _).mono ?_))
          rw [show (Pl.R.mk z.x z.y z.w z.h) = z from rfl, hi]
          rintro e w9 ⟨rfl, B9⟩
          have ⟨k1, _⟩ := keepc B9 g1 (by simp; omega)
          have ⟨k2, _⟩ := keepc B9 w1.heap.size (by simp; omega)
          have BB9 : Hid (Below wo.heap.size wo w9) := Lib.hid (Below.trans (by go_grown) (B9.mono (by simp)))
          have s9 := BB9.out.size
          have V9 := Lib.hid ((VB.drew (VB.new (b := wo.heap.size) (cs := [.int .i64 0, .int .i64 0, .int .i64 0, .int .i64 0]) rfl)).step B9)
          obtain ⟨l9, c90, c91, c92, c93, f90, f91, f92, f93⟩ := V9.out.open4
          refine hK.out _ _ ?_ (fun hHeld => ?_)
          · (((try dsimp only); (repeat' apply And.intro) <;> (first | (simp only [World.cell?_drew, *]; done) | (simp (disch := (first | omega | (simp; omega))) only [cell_far, cell_old, World.cell?_drew, *]; done))))
          clear hK K
          try simp only [Act.put, List.setIfInBounds_toArray, List.set_cons_zero, List.set_cons_succ]
          refine readyL (rs := [7]) (by kernel_rfl) (by simp) ?_
          refine AllReadyL.cons (o := ?_) ?_ (fun K hK => ?_) AllReadyL.none_
          rotate_left
          · (simp only [List.getElem?_toArray, List.getElem?_cons_succ, List.getElem?_cons_zero]; rfl)
          go_simp
          refine hK.out _ _ ?_ (fun hHeld => ?_)
          · (((try dsimp only); (repeat' apply And.intro) <;> (first | (simp only [World.cell?_drew, *]; done) | (simp (disch := (first | omega | (simp; omega))) only [cell_far, cell_old, World.cell?_drew, *]; done))))
          clear hK K
          try simp only [Act.put, List.setIfInBounds_toArray, List.set_cons_zero, List.set_cons_succ]
          refine doneL (by kernel_rfl) ?_ _
          go_wp2_with fail
          go_meet
          case rel => exact ⟨wo.heap.size, rfl, Nat.le_refl _, Lib.hid (V9.out.set4 _ _ _ _), Lib.hid ((((BB9.out.setCell (Nat.le_refl _) _).setCell (Nat.le_refl _) _).setCell (Nat.le_refl _) _).setCell (Nat.le_refl _) _)⟩
        exact AllReadyL.none_
      case rest =>
        obtain ⟨b, rfl, hbb, hV6, hB6⟩ := hcut
        have hS6 := Lib.hid (hS.out.step hB6.out)
        have hVs6 := Lib.hid (hV.out.step hB6.out)
        have hBB6 := Lib.hid (later hB.out hB6.out)
        clear v0 v1 v2 v3 p0 p1 p2 p3
        obtain ⟨l6, c0, c1, c2, c3, _⟩ := hV6.out.open4
        go_wp2_with fail
        clear l6 c0 c1 c2 c3
        go_loopw [7] (fun sy wr => ∃ y : Nat, Y ≤ y ∧ y ≤ Y + K ∧ sy = .int .i64 y ∧ Hid (Bls wr w.heap.size w1.heap.size (.slice (some ⟨w.heap.size, 0, none⟩) 256 256) (Pl.flat (fun j i => Pl.gridL (zs.take k) j i || decide (Y ≤ j ∧ j < y ∧ A ≤ i ∧ i < A + N)))) ∧ Hid (VB wr w1.heap.size [.int .i64 0, .int .i64 0, .int .i64 16, .int .i64 16]) ∧ Hid (VB wr b [.int .i64 A, .int .i64 Y, .int .i64 N, .int .i64 K]) ∧ Hid (Below w.heap.size w wr)) (fun sy _ => Y + K - (intOf sy).toNat)
        case atStart => exact ⟨Y, Nat.le_refl _, by omega, rfl, Lib.hid (by rw [Pl.flat_congr (K := Pl.gridL (zs.take k)) (fun j _ i _ => by simp; omega)]; exact hS6.out), hVs6, hV6, hBB6⟩
        case round =>
          obtain ⟨wy, rfl⟩ : ∃ wy : World, wy = wr := ⟨_, rfl⟩
          obtain ⟨y, hy0, hy, rfl, hSy, hVy, hRy, hBy⟩ := hrel
          obtain ⟨l6, c0, c1, c2, c3, _⟩ := hRy.out.open4
          by_cases hylt : y < Y + K
          · go_wp2_with fail
            clear l6 c0 c1 c2 c3
            go_loopw [8] (fun sx wr => ∃ x : Nat, A ≤ x ∧ x ≤ A + N ∧ sx = .int .i64 x ∧ Hid (Bls wr w.heap.size w1.heap.size (.slice (some ⟨w.heap.size, 0, none⟩) 256 256) (Pl.flat (fun j i => Pl.gridL (zs.take k) j i || decide (Y ≤ j ∧ j < y ∧ A ≤ i ∧ i < A + N) || decide (j = y ∧ A ≤ i ∧ i < x)))) ∧ Hid (VB wr w1.heap.size [.int .i64 0, .int .i64 0, .int .i64 16, .int .i64 16]) ∧ Hid (VB wr b [.int .i64 A, .int .i64 Y, .int .i64 N, .int .i64 K]) ∧ Hid (Below w.heap.size w wr)) (fun sx _ => A + N - (intOf sx).toNat)
            case atStart => exact ⟨A, Nat.le_refl _, by omega, rfl, Lib.hid (by rw [Pl.flat_congr (K := fun j i => Pl.gridL (zs.take k) j i || decide (Y ≤ j ∧ j < y ∧ A ≤ i ∧ i < A + N)) (fun j _ i _ => by simp; omega)]; exact hSy.out), hVy, hRy, hBy⟩
            case round =>
              obtain ⟨x, hx0, hx, rfl, hSx, hVx, hRx, hBx⟩ := hrel
              obtain ⟨l6, c0, c1, c2, c3, _⟩ := hRx.out.open4
              have yp0 : (0 : Int) ≤ (y : Int) := Int.natCast_nonneg _
              have yp1 : (y : Int) < 16 := by omega
              have xp0 : (0 : Int) ≤ (x : Int) := Int.natCast_nonneg _
              by_cases hxlt : x < A + N
              · have xp1 : (x : Int) < 16 := by omega
                obtain ⟨g, eg, lg, hg, lgs, cg, fg⟩ := hSx.out.flatAt (y := y) (x := x) (by omega) (by omega)
                injection eg with eg
                injection eg with eg
                subst eg
                go_wp2_with fail
                go_roundw
                case rel =>
                  refine ⟨x + 1, by omega, by omega, by go_num, Lib.hid ?_, Lib.hid (hVx.out.far _ _ (by show w1.heap.size ≠ w.heap.size; omega)), Lib.hid (hRx.out.far _ _ (by show b ≠ w.heap.size; omega)), Lib.hid (hBx.out.setCell (Nat.le_refl _) _)⟩
                  have := hSx.out.stored (y * 16 + x) true
                  rw [Pl.flat_set _ (by omega) (by omega)] at this
                  rw [Pl.flat_congr (K := fun j i => if j = y ∧ i = x then true else Pl.gridL (zs.take k) j i || decide (Y ≤ j ∧ j < y ∧ A ≤ i ∧ i < A + N) || decide (j = y ∧ A ≤ i ∧ i < x))]
                  · exact this
                  · intro j _ i _
                    by_cases e : j = y ∧ i = x
                    · rw [if_pos e]; simp; omega
                    · rw [if_neg e]; refine Pl.or_right _ ?_; rw [Bool.eq_iff_iff]; simp; omega
                case measure => simp [intOf]; omega
              · obtain rfl : x = A + N := by omega
                go_wp2_with fail
                go_roundw
                case rel => exact ⟨y + 1, by omega, by omega, by go_num, Lib.hid (by rw [Pl.flat_congr (K := fun j i => Pl.gridL (zs.take k) j i || decide (Y ≤ j ∧ j < y ∧ A ≤ i ∧ i < A + N) || decide (j = y ∧ A ≤ i ∧ i < A + N)) (fun j _ i _ => by rw [Bool.or_assoc]; refine Pl.or_right _ ?_; rw [Bool.eq_iff_iff]; simp; omega)]; exact hSx.out), hVx, hRx, hBx⟩
                case measure => simp [intOf]; omega
          · obtain rfl : y = Y + K := by omega
            go_wp2_with fail
            go_roundw
            case rel => exact ⟨k + 1, by omega, by go_num, Lib.hid (by rw [Pl.flat_congr (K := fun j i => Pl.gridL (zs.take k) j i || decide (Y ≤ j ∧ j < Y + K ∧ A ≤ i ∧ i < A + N)) (fun j hj i hi => by rw [Pl.gridL_take HZ.out, ← Hhas.out i j hi hj]; refine Pl.or_right _ ?_; rw [Bool.eq_iff_iff, Pl.has_nat hA hY]; simp; omega)]; exact hSy.out), hVy, hBy⟩
            case measure => simp [intOf]; omega
    · obtain rfl : k = n := by omega
      go_wp2_with fail
      go_ret
      have e : zs.take k = zs := List.take_of_length_le (by rw [HN.out]; exact Nat.le_refl _)
      rw [e] at hS
      exact ⟨_, _, rfl, Own.mono hS.out (Nat.le_refl _) hS.out.hi_le (Nat.le_refl _) , hB.out⟩
end Go.Proofs.Ytmjjepgnciibcaa
