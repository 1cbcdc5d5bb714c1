/- The law FnExactCropImage: it returns true. -/
import Derived.Test.YtbgemonpkncldaaWalks4
import Derived.Test.YtbgemonpkncldaaCrop
import Derived.Deep.RegionHeld3
import Derived.Deep.DeepCutAuto
import Derived.Test.YtbgemonpkncldaaOrd
namespace Go.Proofs.Ytbgemonpkncldaa
open Go.RowKit
set_option linter.unusedVariables false
set_option linter.unusedSimpArgs false
theorem Pl.crop_len (W H : Int) (zs : List Int) (x y a b : Int) : (Pl.crop ⟨W, H, zs⟩ ⟨x, y, a, b⟩).d.length ≤ 256 := by
  unfold Pl.crop
  split
  · rename_i h
    obtain ⟨h1, _, _, _, h2, h3, h4, h5, h6, h7⟩ := Pl.cropOk_t h
    obtain ⟨h8, h9, _⟩ := Pl.imageOk_t h1
    simp only at h8 h9
    exact Pl.tab_len _ (Pl.inB_mk (by show 1 ≤ a ∧ a ≤ 16; omega)) (Pl.inB_mk (by show 1 ≤ b ∧ b ≤ 16; omega))
  · simp [Pl.Img.zero]
set_option maxHeartbeats 8000000 in
set_option maxRecDepth 100000 in
theorem walkFnExactCropImage (ix0 iy0 : Int) (A0 : Option Addr) (n0 c0 : Nat) (z0 : List Int) (rx1 ry1 rw1 rh1 : Int) (w : World) (wix0 : (Lit.int .i64 ix0).wf = true) (wiy0 : (Lit.int .i64 iy0).wf = true) (hr0 : IsRow .i64 w A0 n0 c0 z0) (wrx1 : (Lit.int .i64 rx1).wf = true) (wry1 : (Lit.int .i64 ry1).wf = true) (wrw1 : (Lit.int .i64 rw1).wf = true) (wrh1 : (Lit.int .i64 rh1).wf = true) : Calls Try.prog 9 #[.agg #[.int .i64 ix0, .int .i64 iy0, .slice A0 n0 c0], .agg #[.int .i64 rx1, .int .i64 ry1, .int .i64 rw1, .int .i64 rh1]] w fun e w' => e = .returned (.bool true) ∧ Below w.heap.size w w' := by
  have Bw : Below w.heap.size w w := Below.refl _ _
  have bsw := Bw.size
  obtain ⟨ha0, hl0, hm0, hq0⟩ := Arg.of_row hr0
  generalize z0.take n0 = zs0 at *
  have arg0 := Lib.hid ha0
  have L0 := Lib.hid hl0
  clear ha0 hl0 hr0 hq0 wix0 wiy0
  clear wrx1 wry1 wrw1 wrh1
  by_cases hbig0 : 1048576 < (n0 : Int)
  · have hs := szd_big hbig0
    have HS := Lib.hid hs
    clear hs
    go_enter Try.func9, Try.ntmps9
    go_wp2_with fail
    refine (szImage_any _ _ _ _ _ _ _ (by omega) (by omega) (by omega)).mono ?_
    rintro e w1 ⟨rfl, hbw1⟩
    have bw1 : Below w.heap.size w w1 := later (by go_grown) hbw1
    have Bw1 : Below w.heap.size w w1 := Bw.trans (bw1.mono bsw)
    have sw1 := hbw1.size
    (try simp at sw1)
    have tw1 := bw1.size
    have bsw1 := Bw1.size
    have Xa0w1 := Lib.hid (Box.of3 hbw1 (w.heap.size) (by first | omega | (simp; done) | (simp; omega)) (v0 := .int .i64 ix0)  (v1 := .int .i64 iy0)  (v2 := .slice A0 n0 c0) (by simp [go_sem]) (by simp [go_sem]) (by simp [go_sem]))
    have Xa1w1 := Lib.hid (Box.of4 hbw1 (w.heap.size + 1) (by first | omega | (simp; done) | (simp; omega)) (v0 := .int .i64 rx1)  (v1 := .int .i64 ry1)  (v2 := .int .i64 rw1)  (v3 := .int .i64 rh1) (by simp [go_sem]) (by simp [go_sem]) (by simp [go_sem]) (by simp [go_sem]))
    have ⟨qa0w1_0, qa0w1_1, qa0w1_2, qa0w1_3⟩ := Xa0w1.out.open3
    have ⟨qa1w1_0, qa1w1_1, qa1w1_2, qa1w1_3, qa1w1_4⟩ := Xa1w1.out.open4
    rw [HS.out]
    go_wp2_with fail
    go_ret
    exact ⟨rfl, by go_grown⟩
  skip
  have hsm0 : n0 ≤ 1048576 := by omega
  go_enter Try.func9, Try.ntmps9
  go_wp2_with fail
  refine (szImage_any _ _ _ _ _ _ _ (by omega) (by omega) (by omega)).mono ?_
  rintro e w1 ⟨rfl, hbw1⟩
  have bw1 : Below w.heap.size w w1 := later (by go_grown) hbw1
  have Bw1 : Below w.heap.size w w1 := Bw.trans (bw1.mono bsw)
  have sw1 := hbw1.size
  (try simp at sw1)
  have tw1 := bw1.size
  have bsw1 := Bw1.size
  have Xa0w1 := Lib.hid (Box.of3 hbw1 (w.heap.size) (by first | omega | (simp; done) | (simp; omega)) (v0 := .int .i64 ix0)  (v1 := .int .i64 iy0)  (v2 := .slice A0 n0 c0) (by simp [go_sem]) (by simp [go_sem]) (by simp [go_sem]))
  have Xa1w1 := Lib.hid (Box.of4 hbw1 (w.heap.size + 1) (by first | omega | (simp; done) | (simp; omega)) (v0 := .int .i64 rx1)  (v1 := .int .i64 ry1)  (v2 := .int .i64 rw1)  (v3 := .int .i64 rh1) (by simp [go_sem]) (by simp [go_sem]) (by simp [go_sem]) (by simp [go_sem]))
  have ⟨qa0w1_0, qa0w1_1, qa0w1_2, qa0w1_3⟩ := Xa0w1.out.open3
  have ⟨qa1w1_0, qa1w1_1, qa1w1_2, qa1w1_3, qa1w1_4⟩ := Xa1w1.out.open4
  rw [szd_small (by omega)]
  have hZ0 : zs0.length ≤ 1048576 := by rw [L0.out]; exact hsm0
  have hT : (Pl.crop ⟨ix0, iy0, zs0⟩ ⟨rx1, ry1, rw1, rh1⟩).d.length ≤ 256 := Pl.crop_len _ _ _ _ _ _ _
  obtain ⟨ok, hok⟩ : ∃ ok, ok = (Pl.cropOk ⟨ix0, iy0, zs0⟩ ⟨rx1, ry1, rw1, rh1⟩) := ⟨_, rfl⟩
  have HOK := Lib.hid hok
  clear hok
  go_upto_region 5 with fail
  go_cut [6, 7] (fun s6 s7 wx => s7 = .bool ok ∧ ∃ bk : Nat, s6 = .pointer (some ⟨bk, 0, none⟩) ∧ NewVar w1 wx bk (fun (AA : Option Addr) (cc : Nat) => ([.int .i64 (Pl.crop ⟨ix0, iy0, zs0⟩ ⟨rx1, ry1, rw1, rh1⟩).w, .int .i64 (Pl.crop ⟨ix0, iy0, zs0⟩ ⟨rx1, ry1, rw1, rh1⟩).h, .slice AA (Pl.crop ⟨ix0, iy0, zs0⟩ ⟨rx1, ry1, rw1, rh1⟩).d.length cc] : List Value)) (Pl.crop ⟨ix0, iy0, zs0⟩ ⟨rx1, ry1, rw1, rh1⟩).d.length (Pl.crop ⟨ix0, iy0, zs0⟩ ⟨rx1, ry1, rw1, rh1⟩).d)
  case first =>
    refine regionL (S := (fun w' => w'.cell? ⟨w.heap.size, 0, none⟩ = some (.int .i64 ix0) ∧ w'.cell? ⟨w.heap.size, 1, none⟩ = some (.int .i64 iy0) ∧ w'.cell? ⟨w.heap.size, 2, none⟩ = some (.slice A0 n0 c0) ∧ w'.cell? ⟨w.heap.size + 1, 0, none⟩ = some (.int .i64 rx1) ∧ w'.cell? ⟨w.heap.size + 1, 1, none⟩ = some (.int .i64 ry1) ∧ w'.cell? ⟨w.heap.size + 1, 2, none⟩ = some (.int .i64 rw1) ∧ w'.cell? ⟨w.heap.size + 1, 3, none⟩ = some (.int .i64 rh1))) (L := 11) (by kernel_rfl) ?_ (fun hHeld => ?_)
    · (((try dsimp only); (repeat' apply And.intro) <;> (first | (simp only [World.cell?_drew, *]; done) | (simp (disch := (first | omega | (simp; omega))) only [cell_far, cell_old, World.cell?_drew, *]; done))))
    refine takeL (i := 0) (oi := ?_) (v := ?_) ?_ (by kernel_rfl) (by kernel_rfl) (by kernel_rfl) (by kernel_rfl) ?_ (Or.inl ⟨?_, ?_⟩) (by assumption) ?_
    rotate_left 2
    · (simp only [List.getElem?_toArray, List.getElem?_cons_succ, List.getElem?_cons_zero]; rfl)
    · exact fun _ _ _ h => h
    · rfl
    · (intro w hSw; (try dsimp only at hSw); go_simp; (try with_reducible rfl))
    try simp only [Act.put, List.setIfInBounds_toArray, List.set_cons_zero, List.set_cons_succ]
    refine takeL (i := 2) (oi := ?_) (v := ?_) ?_ (by kernel_rfl) (by kernel_rfl) (by kernel_rfl) (by kernel_rfl) ?_ (Or.inl ⟨?_, ?_⟩) (by assumption) ?_
    rotate_left 2
    · (simp only [List.getElem?_toArray, List.getElem?_cons_succ, List.getElem?_cons_zero]; rfl)
    · exact fun _ _ _ h => h
    · rfl
    · (intro w hSw; (try dsimp only at hSw); go_simp; (try with_reducible rfl))
    try simp only [Act.put, List.setIfInBounds_toArray, List.set_cons_zero, List.set_cons_succ]
    refine readyL (rs := [1, 8]) (by kernel_rfl) (by simp) ?_
    refine AllReadyL.cons (o := ?_) ?_ (fun K hK => ?_) ?_
    rotate_left
    · (simp only [List.getElem?_toArray, List.getElem?_cons_succ, List.getElem?_cons_zero]; rfl)
    · go_simp
      go_at_call 16
      ((with_reducible refine (toImage_any _ _ _ _ _ zs0 _ (arg0.out.below (by go_grown)) L0.out hsm0).mono ?_))
      rintro e w2 ⟨Aw2, cw2, rfl, Ow2, hbw2⟩
      have bw2 : Below w1.heap.size w1 w2 := later (by go_grown) hbw2
      have Bw2 : Below w.heap.size w w2 := Bw1.trans (bw2.mono bsw1)
      have sw2 := hbw2.size
      (try simp at sw2)
      have tw2 := bw2.size
      have bsw2 := Bw2.size
      have Xa0w2 := Lib.hid (Xa0w1.out.step bw2)
      clear Xa0w1 qa0w1_0 qa0w1_1 qa0w1_2 qa0w1_3
      have Xa1w2 := Lib.hid (Xa1w1.out.step bw2)
      clear Xa1w1 qa1w1_0 qa1w1_1 qa1w1_2 qa1w1_3 qa1w1_4
      have ⟨qa0w2_0, qa0w2_1, qa0w2_2, qa0w2_3⟩ := Xa0w2.out.open3
      have ⟨qa1w2_0, qa1w2_1, qa1w2_2, qa1w2_3, qa1w2_4⟩ := Xa1w2.out.open4
      have Itw2 : Hid (Ints w2 (w1.heap.size) w2.heap.size _ _) := Own.mono Ow2 (by (try simp); (try omega)) (Nat.le_refl _) (Nat.le_refl _)
      clear Ow2
      refine hK.out _ _ ?_ (fun hHeld => ?_)
      · (((try dsimp only); (repeat' apply And.intro) <;> (first | (simp only [World.cell?_drew, *]; done) | (simp (disch := (first | omega | (simp; omega))) only [cell_far, cell_old, World.cell?_drew, *]; done))))
      clear hK K
      try simp only [Act.put, List.setIfInBounds_toArray, List.set_cons_zero, List.set_cons_succ]
      refine readyL (rs := [3, 8]) (by kernel_rfl) (by simp) ?_
      refine AllReadyL.cons (o := ?_) ?_ (fun K hK => ?_) ?_
      rotate_left
      · (simp only [List.getElem?_toArray, List.getElem?_cons_succ, List.getElem?_cons_zero]; rfl)
      · go_simp
        go_at_call 32
        ((with_reducible refine (toRect_any rx1 ry1 rw1 rh1 _).mono ?_))
        rintro e w3 ⟨rfl, hbw3⟩
        have bw3 : Below w2.heap.size w2 w3 := later (by go_grown) hbw3
        have Bw3 : Below w.heap.size w w3 := Bw2.trans (bw3.mono bsw2)
        have sw3 := hbw3.size
        (try simp at sw3)
        have tw3 := bw3.size
        have bsw3 := Bw3.size
        have Xa0w3 := Lib.hid (Xa0w2.out.step bw3)
        clear Xa0w2 qa0w2_0 qa0w2_1 qa0w2_2 qa0w2_3
        have Xa1w3 := Lib.hid (Xa1w2.out.step bw3)
        clear Xa1w2 qa1w2_0 qa1w2_1 qa1w2_2 qa1w2_3 qa1w2_4
        have ⟨qa0w3_0, qa0w3_1, qa0w3_2, qa0w3_3⟩ := Xa0w3.out.open3
        have ⟨qa1w3_0, qa1w3_1, qa1w3_2, qa1w3_3, qa1w3_4⟩ := Xa1w3.out.open4
        have Itw3 := Lib.hid (Itw2.out.step bw3)
        clear Itw2
        refine hK.out _ _ ?_ (fun hHeld => ?_)
        · (((try dsimp only); (repeat' apply And.intro) <;> (first | (simp only [World.cell?_drew, *]; done) | (simp (disch := (first | omega | (simp; omega))) only [cell_far, cell_old, World.cell?_drew, *]; done))))
        clear hK K
        try simp only [Act.put, List.setIfInBounds_toArray, List.set_cons_zero, List.set_cons_succ]
        refine readyL (rs := [4, 8]) (by kernel_rfl) (by simp) ?_
        refine AllReadyL.cons (o := ?_) ?_ (fun K hK => ?_) ?_
        rotate_left
        · (simp only [List.getElem?_toArray, List.getElem?_cons_succ, List.getElem?_cons_zero]; rfl)
        · go_simp
          go_at_call 31
          ((with_reducible refine (specCrop _ _ _ _ _ (w1.heap.size) (w2.heap.size) zs0 _ _ _ _ _ (Itw3.out.step (by go_grown))).mono ?_))
          rw [← HOK.out]
          rintro e w4 ⟨Aw4, cw4, rfl, Ow4, hbw4⟩
          have bw4 : Below w3.heap.size w3 w4 := later (by go_grown) hbw4
          have Bw4 : Below w.heap.size w w4 := Bw3.trans (bw4.mono bsw3)
          have sw4 := hbw4.size
          (try simp at sw4)
          have tw4 := bw4.size
          have bsw4 := Bw4.size
          have Xa0w4 := Lib.hid (Xa0w3.out.step bw4)
          clear Xa0w3 qa0w3_0 qa0w3_1 qa0w3_2 qa0w3_3
          have Xa1w4 := Lib.hid (Xa1w3.out.step bw4)
          clear Xa1w3 qa1w3_0 qa1w3_1 qa1w3_2 qa1w3_3 qa1w3_4
          have ⟨qa0w4_0, qa0w4_1, qa0w4_2, qa0w4_3⟩ := Xa0w4.out.open3
          have ⟨qa1w4_0, qa1w4_1, qa1w4_2, qa1w4_3, qa1w4_4⟩ := Xa1w4.out.open4
          have Itw4 := Lib.hid (Itw3.out.step bw4)
          clear Itw3
          have Iww4 := Lib.hid Ow4
          clear Ow4
          refine hK.out _ _ ?_ (fun hHeld => ?_)
          · (((try dsimp only); (repeat' apply And.intro) <;> (first | (simp only [World.cell?_drew, *]; done) | (simp (disch := (first | omega | (simp; omega))) only [cell_far, cell_old, World.cell?_drew, *]; done))))
          clear hK K
          try simp only [Act.put, List.setIfInBounds_toArray, List.set_cons_zero, List.set_cons_succ]
          refine takeL (i := 5) (oi := ?_) (v := ?_) ?_ (by kernel_rfl) (by kernel_rfl) (by kernel_rfl) (by kernel_rfl) ?_ (Or.inl ⟨?_, ?_⟩) (by assumption) ?_
          rotate_left 2
          · (simp only [List.getElem?_toArray, List.getElem?_cons_succ, List.getElem?_cons_zero]; rfl)
          · exact fun _ _ _ h => h
          · rfl
          · (intro w hSw; (try dsimp only at hSw); go_simp; (try with_reducible rfl))
          try simp only [Act.put, List.setIfInBounds_toArray, List.set_cons_zero, List.set_cons_succ]
          refine takeL (i := 6) (oi := ?_) (v := ?_) ?_ (by kernel_rfl) (by kernel_rfl) (by kernel_rfl) (by kernel_rfl) ?_ (Or.inl ⟨?_, ?_⟩) (by assumption) ?_
          rotate_left 2
          · (simp only [List.getElem?_toArray, List.getElem?_cons_succ, List.getElem?_cons_zero]; rfl)
          · exact fun _ _ _ h => h
          · rfl
          · (intro w hSw; (try dsimp only at hSw); go_simp; (try with_reducible rfl))
          try simp only [Act.put, List.setIfInBounds_toArray, List.set_cons_zero, List.set_cons_succ]
          refine takeL (i := 7) (oi := ?_) (v := ?_) ?_ (by kernel_rfl) (by kernel_rfl) (by kernel_rfl) (by kernel_rfl) ?_ (Or.inl ⟨?_, ?_⟩) (by assumption) ?_
          rotate_left 2
          · (simp only [List.getElem?_toArray, List.getElem?_cons_succ, List.getElem?_cons_zero]; rfl)
          · exact fun _ _ _ h => h
          · rfl
          · (intro w hSw; (try dsimp only at hSw); go_simp; (try with_reducible rfl))
          try simp only [Act.put, List.setIfInBounds_toArray, List.set_cons_zero, List.set_cons_succ]
          refine readyL (rs := [8]) (by kernel_rfl) (by simp) ?_
          refine AllReadyL.cons (o := ?_) ?_ (fun K hK => ?_) AllReadyL.none_
          rotate_left
          · (simp only [List.getElem?_toArray, List.getElem?_cons_succ, List.getElem?_cons_zero]; rfl)
          go_simp
          refine hK.out _ _ ?_ (fun hHeld => ?_)
          · (((try dsimp only); (repeat' apply And.intro) <;> (first | (simp only [World.cell?_drew, *]; done) | (simp (disch := (first | omega | (simp; omega))) only [cell_far, cell_old, World.cell?_drew, *]; done))))
          clear hK K
          try simp only [Act.put, List.setIfInBounds_toArray, List.set_cons_zero, List.set_cons_succ]
          refine readyL (rs := [9]) (by kernel_rfl) (by simp) ?_
          refine AllReadyL.cons (o := ?_) ?_ (fun K hK => ?_) AllReadyL.none_
          rotate_left
          · (simp only [List.getElem?_toArray, List.getElem?_cons_succ, List.getElem?_cons_zero]; rfl)
          go_simp
          refine hK.out _ _ ?_ (fun hHeld => ?_)
          · (((try dsimp only); (repeat' apply And.intro) <;> (first | (simp only [World.cell?_drew, *]; done) | (simp (disch := (first | omega | (simp; omega))) only [cell_far, cell_old, World.cell?_drew, *]; done))))
          clear hK K
          try simp only [Act.put, List.setIfInBounds_toArray, List.set_cons_zero, List.set_cons_succ]
          refine takeL (i := 10) (oi := ?_) (v := ?_) ?_ (by kernel_rfl) (by kernel_rfl) (by kernel_rfl) (by kernel_rfl) ?_ (Or.inl ⟨?_, ?_⟩) (by assumption) ?_
          rotate_left 2
          · (simp only [List.getElem?_toArray, List.getElem?_cons_succ, List.getElem?_cons_zero]; rfl)
          · exact fun _ _ _ h => h
          · rfl
          · (intro w hSw; (try dsimp only at hSw); go_simp; (try with_reducible rfl))
          try simp only [Act.put, List.setIfInBounds_toArray, List.set_cons_zero, List.set_cons_succ]
          refine doneL (by kernel_rfl) ?_ _
          go_wp2_with fail
          go_meet
          case rel =>
            have BJ : Below w1.heap.size w1 w4 := ((bw2.trans (bw3.mono (by omega))).trans (bw4.mono (by omega)))
            with_reducible refine ⟨rfl, _, rfl, NewVar.make (Ints.alloc Iww4.out _) ?_ ?_ ?_ ?_ ?_⟩
            · go_grown
            · exact Box.of3 (Below.refl _ _) _ (by first | omega | (simp; done) | (simp; omega)) (by simp [go_sem]; done) (by simp [go_sem]; done) (by simp [go_sem]; done)
            all_goals first | omega | (simp; done) | (simp; omega)
        refine AllReadyL.cons (o := ?_) ?_ (fun K hK => ?_) ?_
        rotate_left
        · (simp only [List.getElem?_toArray, List.getElem?_cons_succ, List.getElem?_cons_zero]; rfl)
        · go_simp
          refine hK.out _ _ ?_ (fun hHeld => ?_)
          · (((try dsimp only); (repeat' apply And.intro) <;> (first | (simp only [World.cell?_drew, *]; done) | (simp (disch := (first | omega | (simp; omega))) only [cell_far, cell_old, World.cell?_drew, *]; done))))
          clear hK K
          try simp only [Act.put, List.setIfInBounds_toArray, List.set_cons_zero, List.set_cons_succ]
          refine readyL (rs := [4]) (by kernel_rfl) (by simp) ?_
          refine AllReadyL.cons (o := ?_) ?_ (fun K hK => ?_) AllReadyL.none_
          rotate_left
          · (simp only [List.getElem?_toArray, List.getElem?_cons_succ, List.getElem?_cons_zero]; rfl)
          go_simp
          go_at_call 31
          ((with_reducible refine (specCrop _ _ _ _ _ (w1.heap.size) (w2.heap.size) zs0 _ _ _ _ _ (Itw3.out.step (by go_grown))).mono ?_))
          rw [← HOK.out]
          rintro e w4 ⟨Aw4, cw4, rfl, Ow4, hbw4⟩
          have bw4 : Below w3.heap.size w3 w4 := later (by go_grown) hbw4
          have Bw4 : Below w.heap.size w w4 := Bw3.trans (bw4.mono bsw3)
          have sw4 := hbw4.size
          (try simp at sw4)
          have tw4 := bw4.size
          have bsw4 := Bw4.size
          have Xa0w4 := Lib.hid (Xa0w3.out.step bw4)
          clear Xa0w3 qa0w3_0 qa0w3_1 qa0w3_2 qa0w3_3
          have Xa1w4 := Lib.hid (Xa1w3.out.step bw4)
          clear Xa1w3 qa1w3_0 qa1w3_1 qa1w3_2 qa1w3_3 qa1w3_4
          have ⟨qa0w4_0, qa0w4_1, qa0w4_2, qa0w4_3⟩ := Xa0w4.out.open3
          have ⟨qa1w4_0, qa1w4_1, qa1w4_2, qa1w4_3, qa1w4_4⟩ := Xa1w4.out.open4
          have Itw4 := Lib.hid (Itw3.out.step bw4)
          clear Itw3
          have Iww4 := Lib.hid Ow4
          clear Ow4
          have ⟨kw4, fw4, yw4⟩ := keep3 hbw4 (w3.heap.size) (by first | omega | (simp; done) | (simp; omega))
          refine hK.out _ _ ?_ (fun hHeld => ?_)
          · (((try dsimp only); (repeat' apply And.intro) <;> (first | (simp only [World.cell?_drew, *]; done) | (simp (disch := (first | omega | (simp; omega))) only [cell_far, cell_old, World.cell?_drew, *]; done))))
          clear hK K
          try simp only [Act.put, List.setIfInBounds_toArray, List.set_cons_zero, List.set_cons_succ]
          refine takeL (i := 5) (oi := ?_) (v := ?_) ?_ (by kernel_rfl) (by kernel_rfl) (by kernel_rfl) (by kernel_rfl) ?_ (Or.inl ⟨?_, ?_⟩) (by assumption) ?_
          rotate_left 2
          · (simp only [List.getElem?_toArray, List.getElem?_cons_succ, List.getElem?_cons_zero]; rfl)
          · exact fun _ _ _ h => h
          · rfl
          · (intro w hSw; (try dsimp only at hSw); go_simp; (try with_reducible rfl))
          try simp only [Act.put, List.setIfInBounds_toArray, List.set_cons_zero, List.set_cons_succ]
          refine takeL (i := 6) (oi := ?_) (v := ?_) ?_ (by kernel_rfl) (by kernel_rfl) (by kernel_rfl) (by kernel_rfl) ?_ (Or.inl ⟨?_, ?_⟩) (by assumption) ?_
          rotate_left 2
          · (simp only [List.getElem?_toArray, List.getElem?_cons_succ, List.getElem?_cons_zero]; rfl)
          · exact fun _ _ _ h => h
          · rfl
          · (intro w hSw; (try dsimp only at hSw); go_simp; (try with_reducible rfl))
          try simp only [Act.put, List.setIfInBounds_toArray, List.set_cons_zero, List.set_cons_succ]
          refine takeL (i := 7) (oi := ?_) (v := ?_) ?_ (by kernel_rfl) (by kernel_rfl) (by kernel_rfl) (by kernel_rfl) ?_ (Or.inl ⟨?_, ?_⟩) (by assumption) ?_
          rotate_left 2
          · (simp only [List.getElem?_toArray, List.getElem?_cons_succ, List.getElem?_cons_zero]; rfl)
          · exact fun _ _ _ h => h
          · rfl
          · (intro w hSw; (try dsimp only at hSw); go_simp; (try with_reducible rfl))
          try simp only [Act.put, List.setIfInBounds_toArray, List.set_cons_zero, List.set_cons_succ]
          refine readyL (rs := [9]) (by kernel_rfl) (by simp) ?_
          refine AllReadyL.cons (o := ?_) ?_ (fun K hK => ?_) AllReadyL.none_
          rotate_left
          · (simp only [List.getElem?_toArray, List.getElem?_cons_succ, List.getElem?_cons_zero]; rfl)
          go_simp
          refine hK.out _ _ ?_ (fun hHeld => ?_)
          · (((try dsimp only); (repeat' apply And.intro) <;> (first | (simp only [World.cell?_drew, *]; done) | (simp (disch := (first | omega | (simp; omega))) only [cell_far, cell_old, World.cell?_drew, *]; done))))
          clear hK K
          try simp only [Act.put, List.setIfInBounds_toArray, List.set_cons_zero, List.set_cons_succ]
          refine takeL (i := 10) (oi := ?_) (v := ?_) ?_ (by kernel_rfl) (by kernel_rfl) (by kernel_rfl) (by kernel_rfl) ?_ (Or.inl ⟨?_, ?_⟩) (by assumption) ?_
          rotate_left 2
          · (simp only [List.getElem?_toArray, List.getElem?_cons_succ, List.getElem?_cons_zero]; rfl)
          · exact fun _ _ _ h => h
          · rfl
          · (intro w hSw; (try dsimp only at hSw); go_simp; (try with_reducible rfl))
          try simp only [Act.put, List.setIfInBounds_toArray, List.set_cons_zero, List.set_cons_succ]
          refine doneL (by kernel_rfl) ?_ _
          go_wp2_with fail
          go_meet
          case rel =>
            have BJ : Below w1.heap.size w1 w4 := ((bw2.trans (bw3.mono (by omega))).trans (bw4.mono (by omega)))
            refine ⟨rfl, _, rfl, NewVar.make (Ints.setc3 Iww4.out (by first | (left; omega) | (right; omega) | (left; simp; done) | (left; simp; omega) | (right; simp; omega)) _ _ _) ?_ ?_ ?_ ?_ ?_⟩
            · go_grown
            · with_reducible exact Box.set3 (u0 := .int .i64 0) (u1 := .int .i64 0) (u2 := .slice none 0 0) (by rw [kw4]; simp [go_sem]; done) (by rw [kw4]; simp [go_sem]; done) (by rw [kw4]; simp [go_sem]; done)
            all_goals first | omega | (simp; done) | (simp; omega)
        exact AllReadyL.none_
      refine AllReadyL.cons (o := ?_) ?_ (fun K hK => ?_) ?_
      rotate_left
      · (simp only [List.getElem?_toArray, List.getElem?_cons_succ, List.getElem?_cons_zero]; rfl)
      · go_simp
        refine hK.out _ _ ?_ (fun hHeld => ?_)
        · (((try dsimp only); (repeat' apply And.intro) <;> (first | (simp only [World.cell?_drew, *]; done) | (simp (disch := (first | omega | (simp; omega))) only [cell_far, cell_old, World.cell?_drew, *]; done))))
        clear hK K
        try simp only [Act.put, List.setIfInBounds_toArray, List.set_cons_zero, List.set_cons_succ]
        refine readyL (rs := [3]) (by kernel_rfl) (by simp) ?_
        refine AllReadyL.cons (o := ?_) ?_ (fun K hK => ?_) AllReadyL.none_
        rotate_left
        · (simp only [List.getElem?_toArray, List.getElem?_cons_succ, List.getElem?_cons_zero]; rfl)
        go_simp
        go_at_call 32
        ((with_reducible refine (toRect_any rx1 ry1 rw1 rh1 _).mono ?_))
        rintro e w3 ⟨rfl, hbw3⟩
        have bw3 : Below w2.heap.size w2 w3 := later (by go_grown) hbw3
        have Bw3 : Below w.heap.size w w3 := Bw2.trans (bw3.mono bsw2)
        have sw3 := hbw3.size
        (try simp at sw3)
        have tw3 := bw3.size
        have bsw3 := Bw3.size
        have Xa0w3 := Lib.hid (Xa0w2.out.step bw3)
        clear Xa0w2 qa0w2_0 qa0w2_1 qa0w2_2 qa0w2_3
        have Xa1w3 := Lib.hid (Xa1w2.out.step bw3)
        clear Xa1w2 qa1w2_0 qa1w2_1 qa1w2_2 qa1w2_3 qa1w2_4
        have ⟨qa0w3_0, qa0w3_1, qa0w3_2, qa0w3_3⟩ := Xa0w3.out.open3
        have ⟨qa1w3_0, qa1w3_1, qa1w3_2, qa1w3_3, qa1w3_4⟩ := Xa1w3.out.open4
        have Itw3 := Lib.hid (Itw2.out.step bw3)
        clear Itw2
        have ⟨kw3, fw3, yw3⟩ := keep3 hbw3 (w2.heap.size) (by first | omega | (simp; done) | (simp; omega))
        refine hK.out _ _ ?_ (fun hHeld => ?_)
        · (((try dsimp only); (repeat' apply And.intro) <;> (first | (simp only [World.cell?_drew, *]; done) | (simp (disch := (first | omega | (simp; omega))) only [cell_far, cell_old, World.cell?_drew, *]; done))))
        clear hK K
        try simp only [Act.put, List.setIfInBounds_toArray, List.set_cons_zero, List.set_cons_succ]
        refine readyL (rs := [4]) (by kernel_rfl) (by simp) ?_
        refine AllReadyL.cons (o := ?_) ?_ (fun K hK => ?_) AllReadyL.none_
        rotate_left
        · (simp only [List.getElem?_toArray, List.getElem?_cons_succ, List.getElem?_cons_zero]; rfl)
        go_simp
        go_at_call 31
        ((with_reducible refine (specCrop _ _ _ _ _ (w1.heap.size) (w2.heap.size) zs0 _ _ _ _ _ (Itw3.out.step (by go_grown))).mono ?_))
        rw [← HOK.out]
        rintro e w4 ⟨Aw4, cw4, rfl, Ow4, hbw4⟩
        have bw4 : Below w3.heap.size w3 w4 := later (by go_grown) hbw4
        have Bw4 : Below w.heap.size w w4 := Bw3.trans (bw4.mono bsw3)
        have sw4 := hbw4.size
        (try simp at sw4)
        have tw4 := bw4.size
        have bsw4 := Bw4.size
        have Xa0w4 := Lib.hid (Xa0w3.out.step bw4)
        clear Xa0w3 qa0w3_0 qa0w3_1 qa0w3_2 qa0w3_3
        have Xa1w4 := Lib.hid (Xa1w3.out.step bw4)
        clear Xa1w3 qa1w3_0 qa1w3_1 qa1w3_2 qa1w3_3 qa1w3_4
        have ⟨qa0w4_0, qa0w4_1, qa0w4_2, qa0w4_3⟩ := Xa0w4.out.open3
        have ⟨qa1w4_0, qa1w4_1, qa1w4_2, qa1w4_3, qa1w4_4⟩ := Xa1w4.out.open4
        have Itw4 := Lib.hid (Itw3.out.step bw4)
        clear Itw3
        have Iww4 := Lib.hid Ow4
        clear Ow4
        have ⟨kw4, fw4, yw4⟩ := keep3 hbw4 (w2.heap.size) (by first | omega | (simp; done) | (simp; omega))
        refine hK.out _ _ ?_ (fun hHeld => ?_)
        · (((try dsimp only); (repeat' apply And.intro) <;> (first | (simp only [World.cell?_drew, *]; done) | (simp (disch := (first | omega | (simp; omega))) only [cell_far, cell_old, World.cell?_drew, *]; done))))
        clear hK K
        try simp only [Act.put, List.setIfInBounds_toArray, List.set_cons_zero, List.set_cons_succ]
        refine takeL (i := 5) (oi := ?_) (v := ?_) ?_ (by kernel_rfl) (by kernel_rfl) (by kernel_rfl) (by kernel_rfl) ?_ (Or.inl ⟨?_, ?_⟩) (by assumption) ?_
        rotate_left 2
        · (simp only [List.getElem?_toArray, List.getElem?_cons_succ, List.getElem?_cons_zero]; rfl)
        · exact fun _ _ _ h => h
        · rfl
        · (intro w hSw; (try dsimp only at hSw); go_simp; (try with_reducible rfl))
        try simp only [Act.put, List.setIfInBounds_toArray, List.set_cons_zero, List.set_cons_succ]
        refine takeL (i := 6) (oi := ?_) (v := ?_) ?_ (by kernel_rfl) (by kernel_rfl) (by kernel_rfl) (by kernel_rfl) ?_ (Or.inl ⟨?_, ?_⟩) (by assumption) ?_
        rotate_left 2
        · (simp only [List.getElem?_toArray, List.getElem?_cons_succ, List.getElem?_cons_zero]; rfl)
        · exact fun _ _ _ h => h
        · rfl
        · (intro w hSw; (try dsimp only at hSw); go_simp; (try with_reducible rfl))
        try simp only [Act.put, List.setIfInBounds_toArray, List.set_cons_zero, List.set_cons_succ]
        refine takeL (i := 7) (oi := ?_) (v := ?_) ?_ (by kernel_rfl) (by kernel_rfl) (by kernel_rfl) (by kernel_rfl) ?_ (Or.inl ⟨?_, ?_⟩) (by assumption) ?_
        rotate_left 2
        · (simp only [List.getElem?_toArray, List.getElem?_cons_succ, List.getElem?_cons_zero]; rfl)
        · exact fun _ _ _ h => h
        · rfl
        · (intro w hSw; (try dsimp only at hSw); go_simp; (try with_reducible rfl))
        try simp only [Act.put, List.setIfInBounds_toArray, List.set_cons_zero, List.set_cons_succ]
        refine readyL (rs := [9]) (by kernel_rfl) (by simp) ?_
        refine AllReadyL.cons (o := ?_) ?_ (fun K hK => ?_) AllReadyL.none_
        rotate_left
        · (simp only [List.getElem?_toArray, List.getElem?_cons_succ, List.getElem?_cons_zero]; rfl)
        go_simp
        refine hK.out _ _ ?_ (fun hHeld => ?_)
        · (((try dsimp only); (repeat' apply And.intro) <;> (first | (simp only [World.cell?_drew, *]; done) | (simp (disch := (first | omega | (simp; omega))) only [cell_far, cell_old, World.cell?_drew, *]; done))))
        clear hK K
        try simp only [Act.put, List.setIfInBounds_toArray, List.set_cons_zero, List.set_cons_succ]
        refine takeL (i := 10) (oi := ?_) (v := ?_) ?_ (by kernel_rfl) (by kernel_rfl) (by kernel_rfl) (by kernel_rfl) ?_ (Or.inl ⟨?_, ?_⟩) (by assumption) ?_
        rotate_left 2
        · (simp only [List.getElem?_toArray, List.getElem?_cons_succ, List.getElem?_cons_zero]; rfl)
        · exact fun _ _ _ h => h
        · rfl
        · (intro w hSw; (try dsimp only at hSw); go_simp; (try with_reducible rfl))
        try simp only [Act.put, List.setIfInBounds_toArray, List.set_cons_zero, List.set_cons_succ]
        refine doneL (by kernel_rfl) ?_ _
        go_wp2_with fail
        go_meet
        case rel =>
          have BJ : Below w1.heap.size w1 w4 := ((bw2.trans (bw3.mono (by omega))).trans (bw4.mono (by omega)))
          refine ⟨rfl, _, rfl, NewVar.make (Ints.setc3 Iww4.out (by first | (left; omega) | (right; omega) | (left; simp; done) | (left; simp; omega) | (right; simp; omega)) _ _ _) ?_ ?_ ?_ ?_ ?_⟩
          · go_grown
          · with_reducible exact Box.set3 (u0 := .int .i64 0) (u1 := .int .i64 0) (u2 := .slice none 0 0) (by rw [kw4, kw3]; simp [go_sem]; done) (by rw [kw4, kw3]; simp [go_sem]; done) (by rw [kw4, kw3]; simp [go_sem]; done)
          all_goals first | omega | (simp; done) | (simp; omega)
      exact AllReadyL.none_
    refine AllReadyL.cons (o := ?_) ?_ (fun K hK => ?_) ?_
    rotate_left
    · (simp only [List.getElem?_toArray, List.getElem?_cons_succ, List.getElem?_cons_zero]; rfl)
    · go_simp
      refine hK.out _ _ ?_ (fun hHeld => ?_)
      · (((try dsimp only); (repeat' apply And.intro) <;> (first | (simp only [World.cell?_drew, *]; done) | (simp (disch := (first | omega | (simp; omega))) only [cell_far, cell_old, World.cell?_drew, *]; done))))
      clear hK K
      try simp only [Act.put, List.setIfInBounds_toArray, List.set_cons_zero, List.set_cons_succ]
      refine readyL (rs := [1]) (by kernel_rfl) (by simp) ?_
      refine AllReadyL.cons (o := ?_) ?_ (fun K hK => ?_) AllReadyL.none_
      rotate_left
      · (simp only [List.getElem?_toArray, List.getElem?_cons_succ, List.getElem?_cons_zero]; rfl)
      go_simp
      go_at_call 16
      ((with_reducible refine (toImage_any _ _ _ _ _ zs0 _ (arg0.out.below (by go_grown)) L0.out hsm0).mono ?_))
      rintro e w2 ⟨Aw2, cw2, rfl, Ow2, hbw2⟩
      have bw2 : Below w1.heap.size w1 w2 := later (by go_grown) hbw2
      have Bw2 : Below w.heap.size w w2 := Bw1.trans (bw2.mono bsw1)
      have sw2 := hbw2.size
      (try simp at sw2)
      have tw2 := bw2.size
      have bsw2 := Bw2.size
      have Xa0w2 := Lib.hid (Xa0w1.out.step bw2)
      clear Xa0w1 qa0w1_0 qa0w1_1 qa0w1_2 qa0w1_3
      have Xa1w2 := Lib.hid (Xa1w1.out.step bw2)
      clear Xa1w1 qa1w1_0 qa1w1_1 qa1w1_2 qa1w1_3 qa1w1_4
      have ⟨qa0w2_0, qa0w2_1, qa0w2_2, qa0w2_3⟩ := Xa0w2.out.open3
      have ⟨qa1w2_0, qa1w2_1, qa1w2_2, qa1w2_3, qa1w2_4⟩ := Xa1w2.out.open4
      have Itw2 : Hid (Ints w2 (w1.heap.size) w2.heap.size _ _) := Own.mono Ow2 (by (try simp); (try omega)) (Nat.le_refl _) (Nat.le_refl _)
      clear Ow2
      have ⟨kw2, fw2, yw2⟩ := keep3 hbw2 (w1.heap.size) (by first | omega | (simp; done) | (simp; omega))
      refine hK.out _ _ ?_ (fun hHeld => ?_)
      · (((try dsimp only); (repeat' apply And.intro) <;> (first | (simp only [World.cell?_drew, *]; done) | (simp (disch := (first | omega | (simp; omega))) only [cell_far, cell_old, World.cell?_drew, *]; done))))
      clear hK K
      try simp only [Act.put, List.setIfInBounds_toArray, List.set_cons_zero, List.set_cons_succ]
      refine readyL (rs := [3]) (by kernel_rfl) (by simp) ?_
      refine AllReadyL.cons (o := ?_) ?_ (fun K hK => ?_) AllReadyL.none_
      rotate_left
      · (simp only [List.getElem?_toArray, List.getElem?_cons_succ, List.getElem?_cons_zero]; rfl)
      go_simp
      go_at_call 32
      ((with_reducible refine (toRect_any rx1 ry1 rw1 rh1 _).mono ?_))
      rintro e w3 ⟨rfl, hbw3⟩
      have bw3 : Below w2.heap.size w2 w3 := later (by go_grown) hbw3
      have Bw3 : Below w.heap.size w w3 := Bw2.trans (bw3.mono bsw2)
      have sw3 := hbw3.size
      (try simp at sw3)
      have tw3 := bw3.size
      have bsw3 := Bw3.size
      have Xa0w3 := Lib.hid (Xa0w2.out.step bw3)
      clear Xa0w2 qa0w2_0 qa0w2_1 qa0w2_2 qa0w2_3
      have Xa1w3 := Lib.hid (Xa1w2.out.step bw3)
      clear Xa1w2 qa1w2_0 qa1w2_1 qa1w2_2 qa1w2_3 qa1w2_4
      have ⟨qa0w3_0, qa0w3_1, qa0w3_2, qa0w3_3⟩ := Xa0w3.out.open3
      have ⟨qa1w3_0, qa1w3_1, qa1w3_2, qa1w3_3, qa1w3_4⟩ := Xa1w3.out.open4
      have Itw3 := Lib.hid (Itw2.out.step bw3)
      clear Itw2
      have ⟨kw3, fw3, yw3⟩ := keep3 hbw3 (w1.heap.size) (by first | omega | (simp; done) | (simp; omega))
      refine hK.out _ _ ?_ (fun hHeld => ?_)
      · (((try dsimp only); (repeat' apply And.intro) <;> (first | (simp only [World.cell?_drew, *]; done) | (simp (disch := (first | omega | (simp; omega))) only [cell_far, cell_old, World.cell?_drew, *]; done))))
      clear hK K
      try simp only [Act.put, List.setIfInBounds_toArray, List.set_cons_zero, List.set_cons_succ]
      refine readyL (rs := [4]) (by kernel_rfl) (by simp) ?_
      refine AllReadyL.cons (o := ?_) ?_ (fun K hK => ?_) AllReadyL.none_
      rotate_left
      · (simp only [List.getElem?_toArray, List.getElem?_cons_succ, List.getElem?_cons_zero]; rfl)
      go_simp
      go_at_call 31
      ((with_reducible refine (specCrop _ _ _ _ _ (w1.heap.size) (w2.heap.size) zs0 _ _ _ _ _ (Itw3.out.step (by go_grown))).mono ?_))
      rw [← HOK.out]
      rintro e w4 ⟨Aw4, cw4, rfl, Ow4, hbw4⟩
      have bw4 : Below w3.heap.size w3 w4 := later (by go_grown) hbw4
      have Bw4 : Below w.heap.size w w4 := Bw3.trans (bw4.mono bsw3)
      have sw4 := hbw4.size
      (try simp at sw4)
      have tw4 := bw4.size
      have bsw4 := Bw4.size
      have Xa0w4 := Lib.hid (Xa0w3.out.step bw4)
      clear Xa0w3 qa0w3_0 qa0w3_1 qa0w3_2 qa0w3_3
      have Xa1w4 := Lib.hid (Xa1w3.out.step bw4)
      clear Xa1w3 qa1w3_0 qa1w3_1 qa1w3_2 qa1w3_3 qa1w3_4
      have ⟨qa0w4_0, qa0w4_1, qa0w4_2, qa0w4_3⟩ := Xa0w4.out.open3
      have ⟨qa1w4_0, qa1w4_1, qa1w4_2, qa1w4_3, qa1w4_4⟩ := Xa1w4.out.open4
      have Itw4 := Lib.hid (Itw3.out.step bw4)
      clear Itw3
      have Iww4 := Lib.hid Ow4
      clear Ow4
      have ⟨kw4, fw4, yw4⟩ := keep3 hbw4 (w1.heap.size) (by first | omega | (simp; done) | (simp; omega))
      refine hK.out _ _ ?_ (fun hHeld => ?_)
      · (((try dsimp only); (repeat' apply And.intro) <;> (first | (simp only [World.cell?_drew, *]; done) | (simp (disch := (first | omega | (simp; omega))) only [cell_far, cell_old, World.cell?_drew, *]; done))))
      clear hK K
      try simp only [Act.put, List.setIfInBounds_toArray, List.set_cons_zero, List.set_cons_succ]
      refine takeL (i := 5) (oi := ?_) (v := ?_) ?_ (by kernel_rfl) (by kernel_rfl) (by kernel_rfl) (by kernel_rfl) ?_ (Or.inl ⟨?_, ?_⟩) (by assumption) ?_
      rotate_left 2
      · (simp only [List.getElem?_toArray, List.getElem?_cons_succ, List.getElem?_cons_zero]; rfl)
      · exact fun _ _ _ h => h
      · rfl
      · (intro w hSw; (try dsimp only at hSw); go_simp; (try with_reducible rfl))
      try simp only [Act.put, List.setIfInBounds_toArray, List.set_cons_zero, List.set_cons_succ]
      refine takeL (i := 6) (oi := ?_) (v := ?_) ?_ (by kernel_rfl) (by kernel_rfl) (by kernel_rfl) (by kernel_rfl) ?_ (Or.inl ⟨?_, ?_⟩) (by assumption) ?_
      rotate_left 2
      · (simp only [List.getElem?_toArray, List.getElem?_cons_succ, List.getElem?_cons_zero]; rfl)
      · exact fun _ _ _ h => h
      · rfl
      · (intro w hSw; (try dsimp only at hSw); go_simp; (try with_reducible rfl))
      try simp only [Act.put, List.setIfInBounds_toArray, List.set_cons_zero, List.set_cons_succ]
      refine takeL (i := 7) (oi := ?_) (v := ?_) ?_ (by kernel_rfl) (by kernel_rfl) (by kernel_rfl) (by kernel_rfl) ?_ (Or.inl ⟨?_, ?_⟩) (by assumption) ?_
      rotate_left 2
      · (simp only [List.getElem?_toArray, List.getElem?_cons_succ, List.getElem?_cons_zero]; rfl)
      · exact fun _ _ _ h => h
      · rfl
      · (intro w hSw; (try dsimp only at hSw); go_simp; (try with_reducible rfl))
      try simp only [Act.put, List.setIfInBounds_toArray, List.set_cons_zero, List.set_cons_succ]
      refine readyL (rs := [9]) (by kernel_rfl) (by simp) ?_
      refine AllReadyL.cons (o := ?_) ?_ (fun K hK => ?_) AllReadyL.none_
      rotate_left
      · (simp only [List.getElem?_toArray, List.getElem?_cons_succ, List.getElem?_cons_zero]; rfl)
      go_simp
      refine hK.out _ _ ?_ (fun hHeld => ?_)
      · (((try dsimp only); (repeat' apply And.intro) <;> (first | (simp only [World.cell?_drew, *]; done) | (simp (disch := (first | omega | (simp; omega))) only [cell_far, cell_old, World.cell?_drew, *]; done))))
      clear hK K
      try simp only [Act.put, List.setIfInBounds_toArray, List.set_cons_zero, List.set_cons_succ]
      refine takeL (i := 10) (oi := ?_) (v := ?_) ?_ (by kernel_rfl) (by kernel_rfl) (by kernel_rfl) (by kernel_rfl) ?_ (Or.inl ⟨?_, ?_⟩) (by assumption) ?_
      rotate_left 2
      · (simp only [List.getElem?_toArray, List.getElem?_cons_succ, List.getElem?_cons_zero]; rfl)
      · exact fun _ _ _ h => h
      · rfl
      · (intro w hSw; (try dsimp only at hSw); go_simp; (try with_reducible rfl))
      try simp only [Act.put, List.setIfInBounds_toArray, List.set_cons_zero, List.set_cons_succ]
      refine doneL (by kernel_rfl) ?_ _
      go_wp2_with fail
      go_meet
      case rel =>
        have BJ : Below w1.heap.size w1 w4 := ((bw2.trans (bw3.mono (by omega))).trans (bw4.mono (by omega)))
        refine ⟨rfl, _, rfl, NewVar.make (Ints.setc3 Iww4.out (by first | (left; omega) | (right; omega) | (left; simp; done) | (left; simp; omega) | (right; simp; omega)) _ _ _) ?_ ?_ ?_ ?_ ?_⟩
        · go_grown
        · with_reducible exact Box.set3 (u0 := .int .i64 0) (u1 := .int .i64 0) (u2 := .slice none 0 0) (by rw [kw4, kw3, kw2]; simp [go_sem]; done) (by rw [kw4, kw3, kw2]; simp [go_sem]; done) (by rw [kw4, kw3, kw2]; simp [go_sem]; done)
        all_goals first | omega | (simp; done) | (simp; omega)
    exact AllReadyL.none_
  case rest =>
    obtain ⟨rfl, bkv2, rfl, lov2, hiv2, cv2, Av2, p1v2, p2v2, p3v2, p4v2, p5v2, XXv2, IIv2, bv2⟩ := hcut
    obtain ⟨v2, rfl⟩ : ∃ v2 : World, v2 = wc := ⟨_, rfl⟩
    have Bv2 : Below w.heap.size w v2 := Bw1.trans (bv2.mono bsw1)
    have tv2 := bv2.size
    have bsv2 := Bv2.size
    have Xa0v2 := Lib.hid (Xa0w1.out.step bv2)
    clear Xa0w1 qa0w1_0 qa0w1_1 qa0w1_2 qa0w1_3
    have Xa1v2 := Lib.hid (Xa1w1.out.step bv2)
    clear Xa1w1 qa1w1_0 qa1w1_1 qa1w1_2 qa1w1_3 qa1w1_4
    have Xwv2 := XXv2
    clear XXv2
    have ⟨qa0v2_0, qa0v2_1, qa0v2_2, qa0v2_3⟩ := Xa0v2.out.open3
    have ⟨qa1v2_0, qa1v2_1, qa1v2_2, qa1v2_3, qa1v2_4⟩ := Xa1v2.out.open4
    have ⟨qwv2_0, qwv2_1, qwv2_2, qwv2_3⟩ := Xwv2.out.open3
    have Iwv2 := IIv2
    clear IIv2
    go_wp2_with fail
    refine (toImage_any _ _ _ _ _ zs0 _ (arg0.out.below (by go_grown)) L0.out hsm0).mono ?_
    rintro e w3 ⟨Aw3, cw3, rfl, Ow3, hbw3⟩
    have bw3 : Below v2.heap.size v2 w3 := later (by go_grown) hbw3
    have Bw3 : Below w.heap.size w w3 := Bv2.trans (bw3.mono bsv2)
    have sw3 := hbw3.size
    (try simp at sw3)
    have tw3 := bw3.size
    have bsw3 := Bw3.size
    have Xa0w3 := Lib.hid (Xa0v2.out.step bw3)
    clear Xa0v2 qa0v2_0 qa0v2_1 qa0v2_2 qa0v2_3
    have Xa1w3 := Lib.hid (Xa1v2.out.step bw3)
    clear Xa1v2 qa1v2_0 qa1v2_1 qa1v2_2 qa1v2_3 qa1v2_4
    have Xww3 := Lib.hid (Xwv2.out.step bw3)
    clear Xwv2 qwv2_0 qwv2_1 qwv2_2 qwv2_3
    have ⟨qa0w3_0, qa0w3_1, qa0w3_2, qa0w3_3⟩ := Xa0w3.out.open3
    have ⟨qa1w3_0, qa1w3_1, qa1w3_2, qa1w3_3, qa1w3_4⟩ := Xa1w3.out.open4
    have ⟨qww3_0, qww3_1, qww3_2, qww3_3⟩ := Xww3.out.open3
    have Iww3 := Lib.hid (Iwv2.out.step bw3)
    clear Iwv2
    have Ixw3 : Hid (Ints w3 (v2.heap.size) w3.heap.size _ _) := Own.mono Ow3 (by (try simp); (try omega)) (Nat.le_refl _) (Nat.le_refl _)
    clear Ow3
    go_upto_region 7 with fail
    have bv4 : Below w3.heap.size w3 (w3.alloc (.cells #[.int .i64 ix0, .int .i64 iy0, .slice Aw3 zs0.length cw3] 27)) := by go_grown
    have sv4 : w3.heap.size + 1 ≤ (w3.alloc (.cells #[.int .i64 ix0, .int .i64 iy0, .slice Aw3 zs0.length cw3] 27)).heap.size := by simp
    have rv4 : (w3.alloc (.cells #[.int .i64 ix0, .int .i64 iy0, .slice Aw3 zs0.length cw3] 27)).heap.size ≤ w3.heap.size + 1 := by simp
    have Zxv4 : Box (w3.alloc (.cells #[.int .i64 ix0, .int .i64 iy0, .slice Aw3 zs0.length cw3] 27)) (w3.heap.size) [.int .i64 ix0, .int .i64 iy0, .slice Aw3 zs0.length cw3] := Box.of3 (Below.refl _ _) _ (by first | (simp; done) | (simp; omega)) (by simp [go_sem]) (by simp [go_sem]) (by simp [go_sem])
    generalize (w3.alloc (.cells #[.int .i64 ix0, .int .i64 iy0, .slice Aw3 zs0.length cw3] 27)) = v4 at *
    have Bv4 : Below w.heap.size w v4 := Bw3.trans (bv4.mono bsw3)
    have tv4 := bv4.size
    have bsv4 := Bv4.size
    have Xa0v4 := Lib.hid (Xa0w3.out.step bv4)
    clear Xa0w3 qa0w3_0 qa0w3_1 qa0w3_2 qa0w3_3
    have Xa1v4 := Lib.hid (Xa1w3.out.step bv4)
    clear Xa1w3 qa1w3_0 qa1w3_1 qa1w3_2 qa1w3_3 qa1w3_4
    have Xwv4 := Lib.hid (Xww3.out.step bv4)
    clear Xww3 qww3_0 qww3_1 qww3_2 qww3_3
    have Xxv4 := Lib.hid Zxv4
    clear Zxv4
    have ⟨qa0v4_0, qa0v4_1, qa0v4_2, qa0v4_3⟩ := Xa0v4.out.open3
    have ⟨qa1v4_0, qa1v4_1, qa1v4_2, qa1v4_3, qa1v4_4⟩ := Xa1v4.out.open4
    have ⟨qwv4_0, qwv4_1, qwv4_2, qwv4_3⟩ := Xwv4.out.open3
    have ⟨qxv4_0, qxv4_1, qxv4_2, qxv4_3⟩ := Xxv4.out.open3
    have Iwv4 := Lib.hid (Iww3.out.step bv4)
    clear Iww3
    have Ixv4 := Lib.hid (Ixw3.out.step bv4)
    clear Ixw3
    go_cut [9, 10] (fun s9 s10 wx => s10 = .bool ok ∧ ∃ bk : Nat, s9 = .pointer (some ⟨bk, 0, none⟩) ∧ NewVar v4 wx bk (fun (AA : Option Addr) (cc : Nat) => ([.int .i64 (Pl.crop ⟨ix0, iy0, zs0⟩ ⟨rx1, ry1, rw1, rh1⟩).w, .int .i64 (Pl.crop ⟨ix0, iy0, zs0⟩ ⟨rx1, ry1, rw1, rh1⟩).h, .slice AA (Pl.crop ⟨ix0, iy0, zs0⟩ ⟨rx1, ry1, rw1, rh1⟩).d.length cc] : List Value)) (Pl.crop ⟨ix0, iy0, zs0⟩ ⟨rx1, ry1, rw1, rh1⟩).d.length (Pl.crop ⟨ix0, iy0, zs0⟩ ⟨rx1, ry1, rw1, rh1⟩).d)
    case first =>
      clear Xa0v4 qa0v4_0 qa0v4_1 qa0v4_2 qa0v4_3
      clear Xwv4 qwv4_0 qwv4_1 qwv4_2 qwv4_3
      clear Iwv4
      refine regionL (S := (fun w' => w'.cell? ⟨w3.heap.size, 0, none⟩ = some (.int .i64 ix0) ∧ w'.cell? ⟨w3.heap.size, 1, none⟩ = some (.int .i64 iy0) ∧ w'.cell? ⟨w3.heap.size, 2, none⟩ = some (.slice Aw3 zs0.length cw3) ∧ w'.cell? ⟨w.heap.size + 1, 0, none⟩ = some (.int .i64 rx1) ∧ w'.cell? ⟨w.heap.size + 1, 1, none⟩ = some (.int .i64 ry1) ∧ w'.cell? ⟨w.heap.size + 1, 2, none⟩ = some (.int .i64 rw1) ∧ w'.cell? ⟨w.heap.size + 1, 3, none⟩ = some (.int .i64 rh1))) (L := 10) (by kernel_rfl) ?_ (fun hHeld => ?_)
      · (((try dsimp only); (repeat' apply And.intro) <;> (first | (simp only [World.cell?_drew, *]; done) | (simp (disch := (first | omega | (simp; omega))) only [cell_far, cell_old, World.cell?_drew, *]; done))))
      refine takeL (i := 0) (oi := ?_) (v := ?_) ?_ (by kernel_rfl) (by kernel_rfl) (by kernel_rfl) (by kernel_rfl) ?_ (Or.inl ⟨?_, ?_⟩) (by assumption) ?_
      rotate_left 2
      · (simp only [List.getElem?_toArray, List.getElem?_cons_succ, List.getElem?_cons_zero]; rfl)
      · exact fun _ _ _ h => h
      · rfl
      · (intro w hSw; (try dsimp only at hSw); go_simp; (try with_reducible rfl))
      try simp only [Act.put, List.setIfInBounds_toArray, List.set_cons_zero, List.set_cons_succ]
      refine takeL (i := 1) (oi := ?_) (v := ?_) ?_ (by kernel_rfl) (by kernel_rfl) (by kernel_rfl) (by kernel_rfl) ?_ (Or.inl ⟨?_, ?_⟩) (by assumption) ?_
      rotate_left 2
      · (simp only [List.getElem?_toArray, List.getElem?_cons_succ, List.getElem?_cons_zero]; rfl)
      · exact fun _ _ _ h => h
      · rfl
      · (intro w hSw; (try dsimp only at hSw); go_simp; (try with_reducible rfl))
      try simp only [Act.put, List.setIfInBounds_toArray, List.set_cons_zero, List.set_cons_succ]
      refine readyL (rs := [2, 7]) (by kernel_rfl) (by simp) ?_
      refine AllReadyL.cons (o := ?_) ?_ (fun K hK => ?_) ?_
      rotate_left
      · (simp only [List.getElem?_toArray, List.getElem?_cons_succ, List.getElem?_cons_zero]; rfl)
      · go_simp
        go_at_call 32
        ((with_reducible refine (toRect_any rx1 ry1 rw1 rh1 _).mono ?_))
        rintro e w5 ⟨rfl, hbw5⟩
        have bw5 : Below v4.heap.size v4 w5 := later (by go_grown) hbw5
        have Bw5 : Below w.heap.size w w5 := Bv4.trans (bw5.mono bsv4)
        have sw5 := hbw5.size
        (try simp at sw5)
        have tw5 := bw5.size
        have bsw5 := Bw5.size
        have Xa1w5 := Lib.hid (Xa1v4.out.step bw5)
        clear Xa1v4 qa1v4_0 qa1v4_1 qa1v4_2 qa1v4_3 qa1v4_4
        have Xxw5 := Lib.hid (Xxv4.out.step bw5)
        clear Xxv4 qxv4_0 qxv4_1 qxv4_2 qxv4_3
        have ⟨qa1w5_0, qa1w5_1, qa1w5_2, qa1w5_3, qa1w5_4⟩ := Xa1w5.out.open4
        have ⟨qxw5_0, qxw5_1, qxw5_2, qxw5_3⟩ := Xxw5.out.open3
        have Ixw5 := Lib.hid (Ixv4.out.step bw5)
        clear Ixv4
        refine hK.out _ _ ?_ (fun hHeld => ?_)
        · (((try dsimp only); (repeat' apply And.intro) <;> (first | (simp only [World.cell?_drew, *]; done) | (simp (disch := (first | omega | (simp; omega))) only [cell_far, cell_old, World.cell?_drew, *]; done))))
        clear hK K
        try simp only [Act.put, List.setIfInBounds_toArray, List.set_cons_zero, List.set_cons_succ]
        refine readyL (rs := [3, 7]) (by kernel_rfl) (by simp) ?_
        refine AllReadyL.cons (o := ?_) ?_ (fun K hK => ?_) ?_
        rotate_left
        · (simp only [List.getElem?_toArray, List.getElem?_cons_succ, List.getElem?_cons_zero]; rfl)
        · go_simp
          go_at_call 33
          ((with_reducible refine (implCrop _ _ _ _ _ (v2.heap.size) (w3.heap.size) zs0 _ _ _ _ _ (Ixw5.out.step (by go_grown))).mono ?_))
          rw [← HOK.out]
          rintro e w6 ⟨Aw6, cw6, rfl, Ow6, hbw6⟩
          have bw6 : Below w5.heap.size w5 w6 := later (by go_grown) hbw6
          have Bw6 : Below w.heap.size w w6 := Bw5.trans (bw6.mono bsw5)
          have sw6 := hbw6.size
          (try simp at sw6)
          have tw6 := bw6.size
          have bsw6 := Bw6.size
          have Xa1w6 := Lib.hid (Xa1w5.out.step bw6)
          clear Xa1w5 qa1w5_0 qa1w5_1 qa1w5_2 qa1w5_3 qa1w5_4
          have Xxw6 := Lib.hid (Xxw5.out.step bw6)
          clear Xxw5 qxw5_0 qxw5_1 qxw5_2 qxw5_3
          have ⟨qa1w6_0, qa1w6_1, qa1w6_2, qa1w6_3, qa1w6_4⟩ := Xa1w6.out.open4
          have ⟨qxw6_0, qxw6_1, qxw6_2, qxw6_3⟩ := Xxw6.out.open3
          have Ixw6 := Lib.hid (Ixw5.out.step bw6)
          clear Ixw5
          have Igw6 := Lib.hid Ow6
          clear Ow6
          refine hK.out _ _ ?_ (fun hHeld => ?_)
          · (((try dsimp only); (repeat' apply And.intro) <;> (first | (simp only [World.cell?_drew, *]; done) | (simp (disch := (first | omega | (simp; omega))) only [cell_far, cell_old, World.cell?_drew, *]; done))))
          clear hK K
          try simp only [Act.put, List.setIfInBounds_toArray, List.set_cons_zero, List.set_cons_succ]
          refine takeL (i := 4) (oi := ?_) (v := ?_) ?_ (by kernel_rfl) (by kernel_rfl) (by kernel_rfl) (by kernel_rfl) ?_ (Or.inl ⟨?_, ?_⟩) (by assumption) ?_
          rotate_left 2
          · (simp only [List.getElem?_toArray, List.getElem?_cons_succ, List.getElem?_cons_zero]; rfl)
          · exact fun _ _ _ h => h
          · rfl
          · (intro w hSw; (try dsimp only at hSw); go_simp; (try with_reducible rfl))
          try simp only [Act.put, List.setIfInBounds_toArray, List.set_cons_zero, List.set_cons_succ]
          refine takeL (i := 5) (oi := ?_) (v := ?_) ?_ (by kernel_rfl) (by kernel_rfl) (by kernel_rfl) (by kernel_rfl) ?_ (Or.inl ⟨?_, ?_⟩) (by assumption) ?_
          rotate_left 2
          · (simp only [List.getElem?_toArray, List.getElem?_cons_succ, List.getElem?_cons_zero]; rfl)
          · exact fun _ _ _ h => h
          · rfl
          · (intro w hSw; (try dsimp only at hSw); go_simp; (try with_reducible rfl))
          try simp only [Act.put, List.setIfInBounds_toArray, List.set_cons_zero, List.set_cons_succ]
          refine takeL (i := 6) (oi := ?_) (v := ?_) ?_ (by kernel_rfl) (by kernel_rfl) (by kernel_rfl) (by kernel_rfl) ?_ (Or.inl ⟨?_, ?_⟩) (by assumption) ?_
          rotate_left 2
          · (simp only [List.getElem?_toArray, List.getElem?_cons_succ, List.getElem?_cons_zero]; rfl)
          · exact fun _ _ _ h => h
          · rfl
          · (intro w hSw; (try dsimp only at hSw); go_simp; (try with_reducible rfl))
          try simp only [Act.put, List.setIfInBounds_toArray, List.set_cons_zero, List.set_cons_succ]
          refine readyL (rs := [7]) (by kernel_rfl) (by simp) ?_
          refine AllReadyL.cons (o := ?_) ?_ (fun K hK => ?_) AllReadyL.none_
          rotate_left
          · (simp only [List.getElem?_toArray, List.getElem?_cons_succ, List.getElem?_cons_zero]; rfl)
          go_simp
          refine hK.out _ _ ?_ (fun hHeld => ?_)
          · (((try dsimp only); (repeat' apply And.intro) <;> (first | (simp only [World.cell?_drew, *]; done) | (simp (disch := (first | omega | (simp; omega))) only [cell_far, cell_old, World.cell?_drew, *]; done))))
          clear hK K
          try simp only [Act.put, List.setIfInBounds_toArray, List.set_cons_zero, List.set_cons_succ]
          refine readyL (rs := [8]) (by kernel_rfl) (by simp) ?_
          refine AllReadyL.cons (o := ?_) ?_ (fun K hK => ?_) AllReadyL.none_
          rotate_left
          · (simp only [List.getElem?_toArray, List.getElem?_cons_succ, List.getElem?_cons_zero]; rfl)
          go_simp
          refine hK.out _ _ ?_ (fun hHeld => ?_)
          · (((try dsimp only); (repeat' apply And.intro) <;> (first | (simp only [World.cell?_drew, *]; done) | (simp (disch := (first | omega | (simp; omega))) only [cell_far, cell_old, World.cell?_drew, *]; done))))
          clear hK K
          try simp only [Act.put, List.setIfInBounds_toArray, List.set_cons_zero, List.set_cons_succ]
          refine takeL (i := 9) (oi := ?_) (v := ?_) ?_ (by kernel_rfl) (by kernel_rfl) (by kernel_rfl) (by kernel_rfl) ?_ (Or.inl ⟨?_, ?_⟩) (by assumption) ?_
          rotate_left 2
          · (simp only [List.getElem?_toArray, List.getElem?_cons_succ, List.getElem?_cons_zero]; rfl)
          · exact fun _ _ _ h => h
          · rfl
          · (intro w hSw; (try dsimp only at hSw); go_simp; (try with_reducible rfl))
          try simp only [Act.put, List.setIfInBounds_toArray, List.set_cons_zero, List.set_cons_succ]
          refine doneL (by kernel_rfl) ?_ _
          go_wp2_with fail
          go_meet
          case rel =>
            have BJ : Below v4.heap.size v4 w6 := (bw5.trans (bw6.mono (by omega)))
            with_reducible refine ⟨rfl, _, rfl, NewVar.make (Ints.alloc Igw6.out _) ?_ ?_ ?_ ?_ ?_⟩
            · go_grown
            · exact Box.of3 (Below.refl _ _) _ (by first | omega | (simp; done) | (simp; omega)) (by simp [go_sem]; done) (by simp [go_sem]; done) (by simp [go_sem]; done)
            all_goals first | omega | (simp; done) | (simp; omega)
        refine AllReadyL.cons (o := ?_) ?_ (fun K hK => ?_) ?_
        rotate_left
        · (simp only [List.getElem?_toArray, List.getElem?_cons_succ, List.getElem?_cons_zero]; rfl)
        · go_simp
          refine hK.out _ _ ?_ (fun hHeld => ?_)
          · (((try dsimp only); (repeat' apply And.intro) <;> (first | (simp only [World.cell?_drew, *]; done) | (simp (disch := (first | omega | (simp; omega))) only [cell_far, cell_old, World.cell?_drew, *]; done))))
          clear hK K
          try simp only [Act.put, List.setIfInBounds_toArray, List.set_cons_zero, List.set_cons_succ]
          refine readyL (rs := [3]) (by kernel_rfl) (by simp) ?_
          refine AllReadyL.cons (o := ?_) ?_ (fun K hK => ?_) AllReadyL.none_
          rotate_left
          · (simp only [List.getElem?_toArray, List.getElem?_cons_succ, List.getElem?_cons_zero]; rfl)
          go_simp
          go_at_call 33
          ((with_reducible refine (implCrop _ _ _ _ _ (v2.heap.size) (w3.heap.size) zs0 _ _ _ _ _ (Ixw5.out.step (by go_grown))).mono ?_))
          rw [← HOK.out]
          rintro e w6 ⟨Aw6, cw6, rfl, Ow6, hbw6⟩
          have bw6 : Below w5.heap.size w5 w6 := later (by go_grown) hbw6
          have Bw6 : Below w.heap.size w w6 := Bw5.trans (bw6.mono bsw5)
          have sw6 := hbw6.size
          (try simp at sw6)
          have tw6 := bw6.size
          have bsw6 := Bw6.size
          have Xa1w6 := Lib.hid (Xa1w5.out.step bw6)
          clear Xa1w5 qa1w5_0 qa1w5_1 qa1w5_2 qa1w5_3 qa1w5_4
          have Xxw6 := Lib.hid (Xxw5.out.step bw6)
          clear Xxw5 qxw5_0 qxw5_1 qxw5_2 qxw5_3
          have ⟨qa1w6_0, qa1w6_1, qa1w6_2, qa1w6_3, qa1w6_4⟩ := Xa1w6.out.open4
          have ⟨qxw6_0, qxw6_1, qxw6_2, qxw6_3⟩ := Xxw6.out.open3
          have Ixw6 := Lib.hid (Ixw5.out.step bw6)
          clear Ixw5
          have Igw6 := Lib.hid Ow6
          clear Ow6
          have ⟨kw6, fw6, yw6⟩ := keep3 hbw6 (w5.heap.size) (by first | omega | (simp; done) | (simp; omega))
          refine hK.out _ _ ?_ (fun hHeld => ?_)
          · (((try dsimp only); (repeat' apply And.intro) <;> (first | (simp only [World.cell?_drew, *]; done) | (simp (disch := (first | omega | (simp; omega))) only [cell_far, cell_old, World.cell?_drew, *]; done))))
          clear hK K
          try simp only [Act.put, List.setIfInBounds_toArray, List.set_cons_zero, List.set_cons_succ]
          refine takeL (i := 4) (oi := ?_) (v := ?_) ?_ (by kernel_rfl) (by kernel_rfl) (by kernel_rfl) (by kernel_rfl) ?_ (Or.inl ⟨?_, ?_⟩) (by assumption) ?_
          rotate_left 2
          · (simp only [List.getElem?_toArray, List.getElem?_cons_succ, List.getElem?_cons_zero]; rfl)
          · exact fun _ _ _ h => h
          · rfl
          · (intro w hSw; (try dsimp only at hSw); go_simp; (try with_reducible rfl))
          try simp only [Act.put, List.setIfInBounds_toArray, List.set_cons_zero, List.set_cons_succ]
          refine takeL (i := 5) (oi := ?_) (v := ?_) ?_ (by kernel_rfl) (by kernel_rfl) (by kernel_rfl) (by kernel_rfl) ?_ (Or.inl ⟨?_, ?_⟩) (by assumption) ?_
          rotate_left 2
          · (simp only [List.getElem?_toArray, List.getElem?_cons_succ, List.getElem?_cons_zero]; rfl)
          · exact fun _ _ _ h => h
          · rfl
          · (intro w hSw; (try dsimp only at hSw); go_simp; (try with_reducible rfl))
          try simp only [Act.put, List.setIfInBounds_toArray, List.set_cons_zero, List.set_cons_succ]
          refine takeL (i := 6) (oi := ?_) (v := ?_) ?_ (by kernel_rfl) (by kernel_rfl) (by kernel_rfl) (by kernel_rfl) ?_ (Or.inl ⟨?_, ?_⟩) (by assumption) ?_
          rotate_left 2
          · (simp only [List.getElem?_toArray, List.getElem?_cons_succ, List.getElem?_cons_zero]; rfl)
          · exact fun _ _ _ h => h
          · rfl
          · (intro w hSw; (try dsimp only at hSw); go_simp; (try with_reducible rfl))
          try simp only [Act.put, List.setIfInBounds_toArray, List.set_cons_zero, List.set_cons_succ]
          refine readyL (rs := [8]) (by kernel_rfl) (by simp) ?_
          refine AllReadyL.cons (o := ?_) ?_ (fun K hK => ?_) AllReadyL.none_
          rotate_left
          · (simp only [List.getElem?_toArray, List.getElem?_cons_succ, List.getElem?_cons_zero]; rfl)
          go_simp
          refine hK.out _ _ ?_ (fun hHeld => ?_)
          · (((try dsimp only); (repeat' apply And.intro) <;> (first | (simp only [World.cell?_drew, *]; done) | (simp (disch := (first | omega | (simp; omega))) only [cell_far, cell_old, World.cell?_drew, *]; done))))
          clear hK K
          try simp only [Act.put, List.setIfInBounds_toArray, List.set_cons_zero, List.set_cons_succ]
          refine takeL (i := 9) (oi := ?_) (v := ?_) ?_ (by kernel_rfl) (by kernel_rfl) (by kernel_rfl) (by kernel_rfl) ?_ (Or.inl ⟨?_, ?_⟩) (by assumption) ?_
          rotate_left 2
          · (simp only [List.getElem?_toArray, List.getElem?_cons_succ, List.getElem?_cons_zero]; rfl)
          · exact fun _ _ _ h => h
          · rfl
          · (intro w hSw; (try dsimp only at hSw); go_simp; (try with_reducible rfl))
          try simp only [Act.put, List.setIfInBounds_toArray, List.set_cons_zero, List.set_cons_succ]
          refine doneL (by kernel_rfl) ?_ _
          go_wp2_with fail
          go_meet
          case rel =>
            have BJ : Below v4.heap.size v4 w6 := (bw5.trans (bw6.mono (by omega)))
            refine ⟨rfl, _, rfl, NewVar.make (Ints.setc3 Igw6.out (by first | (left; omega) | (right; omega) | (left; simp; done) | (left; simp; omega) | (right; simp; omega)) _ _ _) ?_ ?_ ?_ ?_ ?_⟩
            · go_grown
            · with_reducible exact Box.set3 (u0 := .int .i64 0) (u1 := .int .i64 0) (u2 := .slice none 0 0) (by rw [kw6]; simp [go_sem]; done) (by rw [kw6]; simp [go_sem]; done) (by rw [kw6]; simp [go_sem]; done)
            all_goals first | omega | (simp; done) | (simp; omega)
        exact AllReadyL.none_
      refine AllReadyL.cons (o := ?_) ?_ (fun K hK => ?_) ?_
      rotate_left
      · (simp only [List.getElem?_toArray, List.getElem?_cons_succ, List.getElem?_cons_zero]; rfl)
      · go_simp
        refine hK.out _ _ ?_ (fun hHeld => ?_)
        · (((try dsimp only); (repeat' apply And.intro) <;> (first | (simp only [World.cell?_drew, *]; done) | (simp (disch := (first | omega | (simp; omega))) only [cell_far, cell_old, World.cell?_drew, *]; done))))
        clear hK K
        try simp only [Act.put, List.setIfInBounds_toArray, List.set_cons_zero, List.set_cons_succ]
        refine readyL (rs := [2]) (by kernel_rfl) (by simp) ?_
        refine AllReadyL.cons (o := ?_) ?_ (fun K hK => ?_) AllReadyL.none_
        rotate_left
        · (simp only [List.getElem?_toArray, List.getElem?_cons_succ, List.getElem?_cons_zero]; rfl)
        go_simp
        go_at_call 32
        ((with_reducible refine (toRect_any rx1 ry1 rw1 rh1 _).mono ?_))
        rintro e w5 ⟨rfl, hbw5⟩
        have bw5 : Below v4.heap.size v4 w5 := later (by go_grown) hbw5
        have Bw5 : Below w.heap.size w w5 := Bv4.trans (bw5.mono bsv4)
        have sw5 := hbw5.size
        (try simp at sw5)
        have tw5 := bw5.size
        have bsw5 := Bw5.size
        have Xa1w5 := Lib.hid (Xa1v4.out.step bw5)
        clear Xa1v4 qa1v4_0 qa1v4_1 qa1v4_2 qa1v4_3 qa1v4_4
        have Xxw5 := Lib.hid (Xxv4.out.step bw5)
        clear Xxv4 qxv4_0 qxv4_1 qxv4_2 qxv4_3
        have ⟨qa1w5_0, qa1w5_1, qa1w5_2, qa1w5_3, qa1w5_4⟩ := Xa1w5.out.open4
        have ⟨qxw5_0, qxw5_1, qxw5_2, qxw5_3⟩ := Xxw5.out.open3
        have Ixw5 := Lib.hid (Ixv4.out.step bw5)
        clear Ixv4
        have ⟨kw5, fw5, yw5⟩ := keep3 hbw5 (v4.heap.size) (by first | omega | (simp; done) | (simp; omega))
        refine hK.out _ _ ?_ (fun hHeld => ?_)
        · (((try dsimp only); (repeat' apply And.intro) <;> (first | (simp only [World.cell?_drew, *]; done) | (simp (disch := (first | omega | (simp; omega))) only [cell_far, cell_old, World.cell?_drew, *]; done))))
        clear hK K
        try simp only [Act.put, List.setIfInBounds_toArray, List.set_cons_zero, List.set_cons_succ]
        refine readyL (rs := [3]) (by kernel_rfl) (by simp) ?_
        refine AllReadyL.cons (o := ?_) ?_ (fun K hK => ?_) AllReadyL.none_
        rotate_left
        · (simp only [List.getElem?_toArray, List.getElem?_cons_succ, List.getElem?_cons_zero]; rfl)
        go_simp
        go_at_call 33
        ((with_reducible refine (implCrop _ _ _ _ _ (v2.heap.size) (w3.heap.size) zs0 _ _ _ _ _ (Ixw5.out.step (by go_grown))).mono ?_))
        rw [← HOK.out]
        rintro e w6 ⟨Aw6, cw6, rfl, Ow6, hbw6⟩
        have bw6 : Below w5.heap.size w5 w6 := later (by go_grown) hbw6
        have Bw6 : Below w.heap.size w w6 := Bw5.trans (bw6.mono bsw5)
        have sw6 := hbw6.size
        (try simp at sw6)
        have tw6 := bw6.size
        have bsw6 := Bw6.size
        have Xa1w6 := Lib.hid (Xa1w5.out.step bw6)
        clear Xa1w5 qa1w5_0 qa1w5_1 qa1w5_2 qa1w5_3 qa1w5_4
        have Xxw6 := Lib.hid (Xxw5.out.step bw6)
        clear Xxw5 qxw5_0 qxw5_1 qxw5_2 qxw5_3
        have ⟨qa1w6_0, qa1w6_1, qa1w6_2, qa1w6_3, qa1w6_4⟩ := Xa1w6.out.open4
        have ⟨qxw6_0, qxw6_1, qxw6_2, qxw6_3⟩ := Xxw6.out.open3
        have Ixw6 := Lib.hid (Ixw5.out.step bw6)
        clear Ixw5
        have Igw6 := Lib.hid Ow6
        clear Ow6
        have ⟨kw6, fw6, yw6⟩ := keep3 hbw6 (v4.heap.size) (by first | omega | (simp; done) | (simp; omega))
        refine hK.out _ _ ?_ (fun hHeld => ?_)
        · (((try dsimp only); (repeat' apply And.intro) <;> (first | (simp only [World.cell?_drew, *]; done) | (simp (disch := (first | omega | (simp; omega))) only [cell_far, cell_old, World.cell?_drew, *]; done))))
        clear hK K
        try simp only [Act.put, List.setIfInBounds_toArray, List.set_cons_zero, List.set_cons_succ]
        refine takeL (i := 4) (oi := ?_) (v := ?_) ?_ (by kernel_rfl) (by kernel_rfl) (by kernel_rfl) (by kernel_rfl) ?_ (Or.inl ⟨?_, ?_⟩) (by assumption) ?_
        rotate_left 2
        · (simp only [List.getElem?_toArray, List.getElem?_cons_succ, List.getElem?_cons_zero]; rfl)
        · exact fun _ _ _ h => h
        · rfl
        · (intro w hSw; (try dsimp only at hSw); go_simp; (try with_reducible rfl))
        try simp only [Act.put, List.setIfInBounds_toArray, List.set_cons_zero, List.set_cons_succ]
        refine takeL (i := 5) (oi := ?_) (v := ?_) ?_ (by kernel_rfl) (by kernel_rfl) (by kernel_rfl) (by kernel_rfl) ?_ (Or.inl ⟨?_, ?_⟩) (by assumption) ?_
        rotate_left 2
        · (simp only [List.getElem?_toArray, List.getElem?_cons_succ, List.getElem?_cons_zero]; rfl)
        · exact fun _ _ _ h => h
        · rfl
        · (intro w hSw; (try dsimp only at hSw); go_simp; (try with_reducible rfl))
        try simp only [Act.put, List.setIfInBounds_toArray, List.set_cons_zero, List.set_cons_succ]
        refine takeL (i := 6) (oi := ?_) (v := ?_) ?_ (by kernel_rfl) (by kernel_rfl) (by kernel_rfl) (by kernel_rfl) ?_ (Or.inl ⟨?_, ?_⟩) (by assumption) ?_
        rotate_left 2
        · (simp only [List.getElem?_toArray, List.getElem?_cons_succ, List.getElem?_cons_zero]; rfl)
        · exact fun _ _ _ h => h
        · rfl
        · (intro w hSw; (try dsimp only at hSw); go_simp; (try with_reducible rfl))
        try simp only [Act.put, List.setIfInBounds_toArray, List.set_cons_zero, List.set_cons_succ]
        refine readyL (rs := [8]) (by kernel_rfl) (by simp) ?_
        refine AllReadyL.cons (o := ?_) ?_ (fun K hK => ?_) AllReadyL.none_
        rotate_left
        · (simp only [List.getElem?_toArray, List.getElem?_cons_succ, List.getElem?_cons_zero]; rfl)
        go_simp
        refine hK.out _ _ ?_ (fun hHeld => ?_)
        · (((try dsimp only); (repeat' apply And.intro) <;> (first | (simp only [World.cell?_drew, *]; done) | (simp (disch := (first | omega | (simp; omega))) only [cell_far, cell_old, World.cell?_drew, *]; done))))
        clear hK K
        try simp only [Act.put, List.setIfInBounds_toArray, List.set_cons_zero, List.set_cons_succ]
        refine takeL (i := 9) (oi := ?_) (v := ?_) ?_ (by kernel_rfl) (by kernel_rfl) (by kernel_rfl) (by kernel_rfl) ?_ (Or.inl ⟨?_, ?_⟩) (by assumption) ?_
        rotate_left 2
        · (simp only [List.getElem?_toArray, List.getElem?_cons_succ, List.getElem?_cons_zero]; rfl)
        · exact fun _ _ _ h => h
        · rfl
        · (intro w hSw; (try dsimp only at hSw); go_simp; (try with_reducible rfl))
        try simp only [Act.put, List.setIfInBounds_toArray, List.set_cons_zero, List.set_cons_succ]
        refine doneL (by kernel_rfl) ?_ _
        go_wp2_with fail
        go_meet
        case rel =>
          have BJ : Below v4.heap.size v4 w6 := (bw5.trans (bw6.mono (by omega)))
          refine ⟨rfl, _, rfl, NewVar.make (Ints.setc3 Igw6.out (by first | (left; omega) | (right; omega) | (left; simp; done) | (left; simp; omega) | (right; simp; omega)) _ _ _) ?_ ?_ ?_ ?_ ?_⟩
          · go_grown
          · with_reducible exact Box.set3 (u0 := .int .i64 0) (u1 := .int .i64 0) (u2 := .slice none 0 0) (by rw [kw6, kw5]; simp [go_sem]; done) (by rw [kw6, kw5]; simp [go_sem]; done) (by rw [kw6, kw5]; simp [go_sem]; done)
          all_goals first | omega | (simp; done) | (simp; omega)
      exact AllReadyL.none_
    case rest =>
      obtain ⟨rfl, bkv5, rfl, lov5, hiv5, cv5, Av5, p1v5, p2v5, p3v5, p4v5, p5v5, XXv5, IIv5, bv5⟩ := hcut
      obtain ⟨v5, rfl⟩ : ∃ v5 : World, v5 = wc := ⟨_, rfl⟩
      have Bv5 : Below w.heap.size w v5 := Bv4.trans (bv5.mono bsv4)
      have tv5 := bv5.size
      have bsv5 := Bv5.size
      have Xa0v5 := Lib.hid (Xa0v4.out.step bv5)
      clear Xa0v4 qa0v4_0 qa0v4_1 qa0v4_2 qa0v4_3
      have Xa1v5 := Lib.hid (Xa1v4.out.step bv5)
      clear Xa1v4 qa1v4_0 qa1v4_1 qa1v4_2 qa1v4_3 qa1v4_4
      have Xwv5 := Lib.hid (Xwv4.out.step bv5)
      clear Xwv4 qwv4_0 qwv4_1 qwv4_2 qwv4_3
      have Xxv5 := Lib.hid (Xxv4.out.step bv5)
      clear Xxv4 qxv4_0 qxv4_1 qxv4_2 qxv4_3
      have Xgv5 := XXv5
      clear XXv5
      have ⟨qa0v5_0, qa0v5_1, qa0v5_2, qa0v5_3⟩ := Xa0v5.out.open3
      have ⟨qa1v5_0, qa1v5_1, qa1v5_2, qa1v5_3, qa1v5_4⟩ := Xa1v5.out.open4
      have ⟨qwv5_0, qwv5_1, qwv5_2, qwv5_3⟩ := Xwv5.out.open3
      have ⟨qxv5_0, qxv5_1, qxv5_2, qxv5_3⟩ := Xxv5.out.open3
      have ⟨qgv5_0, qgv5_1, qgv5_2, qgv5_3⟩ := Xgv5.out.open3
      have Iwv5 := Lib.hid (Iwv4.out.step bv5)
      clear Iwv4
      have Ixv5 := Lib.hid (Ixv4.out.step bv5)
      clear Ixv4
      have Igv5 := IIv5
      clear IIv5
      go_wp2_with fail
      refine (eqImage_same _ _ _ _ _ _ _ _ (lov5) (hiv5) (lov2) (hiv2) (Pl.crop ⟨ix0, iy0, zs0⟩ ⟨rx1, ry1, rw1, rh1⟩).d _ (Igv5.out.step (by go_grown)) (Iwv5.out.step (by go_grown))).mono ?_
      rintro e w6 ⟨rfl, hbw6⟩
      have bw6 : Below v5.heap.size v5 w6 := later (by go_grown) hbw6
      have Bw6 : Below w.heap.size w w6 := Bv5.trans (bw6.mono bsv5)
      have sw6 := hbw6.size
      (try simp at sw6)
      have tw6 := bw6.size
      have bsw6 := Bw6.size
      have Xa0w6 := Lib.hid (Xa0v5.out.step bw6)
      clear Xa0v5 qa0v5_0 qa0v5_1 qa0v5_2 qa0v5_3
      have Xa1w6 := Lib.hid (Xa1v5.out.step bw6)
      clear Xa1v5 qa1v5_0 qa1v5_1 qa1v5_2 qa1v5_3 qa1v5_4
      have Xww6 := Lib.hid (Xwv5.out.step bw6)
      clear Xwv5 qwv5_0 qwv5_1 qwv5_2 qwv5_3
      have Xxw6 := Lib.hid (Xxv5.out.step bw6)
      clear Xxv5 qxv5_0 qxv5_1 qxv5_2 qxv5_3
      have Xgw6 := Lib.hid (Xgv5.out.step bw6)
      clear Xgv5 qgv5_0 qgv5_1 qgv5_2 qgv5_3
      have ⟨qa0w6_0, qa0w6_1, qa0w6_2, qa0w6_3⟩ := Xa0w6.out.open3
      have ⟨qa1w6_0, qa1w6_1, qa1w6_2, qa1w6_3, qa1w6_4⟩ := Xa1w6.out.open4
      have ⟨qww6_0, qww6_1, qww6_2, qww6_3⟩ := Xww6.out.open3
      have ⟨qxw6_0, qxw6_1, qxw6_2, qxw6_3⟩ := Xxw6.out.open3
      have ⟨qgw6_0, qgw6_1, qgw6_2, qgw6_3⟩ := Xgw6.out.open3
      have Iww6 := Lib.hid (Iwv5.out.step bw6)
      clear Iwv5
      have Ixw6 := Lib.hid (Ixv5.out.step bw6)
      clear Ixv5
      have Igw6 := Lib.hid (Igv5.out.step bw6)
      clear Igv5
      go_wp2_with fail
      go_region_held3 (fun w' => w'.cell? ⟨w3.heap.size, 0, none⟩ = some (.int .i64 ix0) ∧ w'.cell? ⟨w3.heap.size, 1, none⟩ = some (.int .i64 iy0) ∧ w'.cell? ⟨w3.heap.size, 2, none⟩ = some (.slice Aw3 zs0.length cw3) ∧ w'.cell? ⟨w.heap.size, 0, none⟩ = some (.int .i64 ix0) ∧ w'.cell? ⟨w.heap.size, 1, none⟩ = some (.int .i64 iy0) ∧ w'.cell? ⟨w.heap.size, 2, none⟩ = some (.slice A0 n0 c0)) (((try dsimp only); (repeat' apply And.intro) <;> (first | (simp only [World.cell?_drew, *]; done) | (simp (disch := (first | omega | (simp; omega))) only [cell_far, cell_old, World.cell?_drew, *]; done))))
        (first
          | (go_at_call 16; ((with_reducible refine (toImage_any _ _ _ _ _ zs0 _ (arg0.out.below (by go_grown)) L0.out hsm0).mono ?_)); rintro e w7 ⟨Aw7, cw7, rfl, Ow7, hbw7⟩; have bw7 : Below w6.heap.size w6 w7 := later (by go_grown) hbw7; have Bw7 : Below w.heap.size w w7 := Bw6.trans (bw7.mono bsw6); have sw7 := hbw7.size; (try simp at sw7); have tw7 := bw7.size; have bsw7 := Bw7.size; have Xa0w7 := Lib.hid (Xa0w6.out.step bw7); clear Xa0w6 qa0w6_0 qa0w6_1 qa0w6_2 qa0w6_3; have Xa1w7 := Lib.hid (Xa1w6.out.step bw7); clear Xa1w6 qa1w6_0 qa1w6_1 qa1w6_2 qa1w6_3 qa1w6_4; have Xww7 := Lib.hid (Xww6.out.step bw7); clear Xww6 qww6_0 qww6_1 qww6_2 qww6_3; have Xxw7 := Lib.hid (Xxw6.out.step bw7); clear Xxw6 qxw6_0 qxw6_1 qxw6_2 qxw6_3; have Xgw7 := Lib.hid (Xgw6.out.step bw7); clear Xgw6 qgw6_0 qgw6_1 qgw6_2 qgw6_3; have ⟨qa0w7_0, qa0w7_1, qa0w7_2, qa0w7_3⟩ := Xa0w7.out.open3; have ⟨qa1w7_0, qa1w7_1, qa1w7_2, qa1w7_3, qa1w7_4⟩ := Xa1w7.out.open4; have ⟨qww7_0, qww7_1, qww7_2, qww7_3⟩ := Xww7.out.open3; have ⟨qxw7_0, qxw7_1, qxw7_2, qxw7_3⟩ := Xxw7.out.open3; have ⟨qgw7_0, qgw7_1, qgw7_2, qgw7_3⟩ := Xgw7.out.open3; have Iww7 := Lib.hid (Iww6.out.step bw7); clear Iww6; have Ixw7 := Lib.hid (Ixw6.out.step bw7); clear Ixw6; have Igw7 := Lib.hid (Igw6.out.step bw7); clear Igw6; have Itw7 : Hid (Ints w7 (w6.heap.size) w7.heap.size _ _) := Own.mono Ow7 (by (try simp); (try omega)) (Nat.le_refl _) (Nat.le_refl _); clear Ow7)
          | (go_at_call 18; ((with_reducible refine (eqImage_same _ _ _ _ _ _ _ _ (v2.heap.size) (w3.heap.size) (w6.heap.size) (w7.heap.size) zs0 _ (Ixw7.out.step (by go_grown)) (Itw7.out.step (by go_grown))).mono ?_)); rintro e w8 ⟨rfl, hbw8⟩; have bw8 : Below w7.heap.size w7 w8 := later (by go_grown) hbw8; have Bw8 : Below w.heap.size w w8 := Bw7.trans (bw8.mono bsw7); have sw8 := hbw8.size; (try simp at sw8); have tw8 := bw8.size; have bsw8 := Bw8.size; have Xa0w8 := Lib.hid (Xa0w7.out.step bw8); clear Xa0w7 qa0w7_0 qa0w7_1 qa0w7_2 qa0w7_3; have Xa1w8 := Lib.hid (Xa1w7.out.step bw8); clear Xa1w7 qa1w7_0 qa1w7_1 qa1w7_2 qa1w7_3 qa1w7_4; have Xww8 := Lib.hid (Xww7.out.step bw8); clear Xww7 qww7_0 qww7_1 qww7_2 qww7_3; have Xxw8 := Lib.hid (Xxw7.out.step bw8); clear Xxw7 qxw7_0 qxw7_1 qxw7_2 qxw7_3; have Xgw8 := Lib.hid (Xgw7.out.step bw8); clear Xgw7 qgw7_0 qgw7_1 qgw7_2 qgw7_3; have ⟨qa0w8_0, qa0w8_1, qa0w8_2, qa0w8_3⟩ := Xa0w8.out.open3; have ⟨qa1w8_0, qa1w8_1, qa1w8_2, qa1w8_3, qa1w8_4⟩ := Xa1w8.out.open4; have ⟨qww8_0, qww8_1, qww8_2, qww8_3⟩ := Xww8.out.open3; have ⟨qxw8_0, qxw8_1, qxw8_2, qxw8_3⟩ := Xxw8.out.open3; have ⟨qgw8_0, qgw8_1, qgw8_2, qgw8_3⟩ := Xgw8.out.open3; have Iww8 := Lib.hid (Iww7.out.step bw8); clear Iww7; have Ixw8 := Lib.hid (Ixw7.out.step bw8); clear Ixw7; have Igw8 := Lib.hid (Igw7.out.step bw8); clear Igw7; have Itw8 := Lib.hid (Itw7.out.step bw8); clear Itw7))
      go_wp2_with fail
      refine (markImage_any _ _ _ _ _ (v2.heap.size) (w3.heap.size) zs0 _ _ (Ixw8.out.step (by go_grown)) (by omega) (by omega)).mono ?_
      rintro e w9 ⟨rfl, Ow9, how9⟩
      have ow9 : Out (v2.heap.size) (w3.heap.size) w8 w9 := (Out.of_below (by go_grown) _ _).trans how9
      have Bw9 : Below w.heap.size w w9 := below_out Bw8 ow9 (by omega) bsw8
      have tw9 := ow9.size
      have bsw9 := Bw9.size
      have Xa0w9 := Lib.hid (Xa0w8.out.out ow9 (by omega))
      clear Xa0w8 qa0w8_0 qa0w8_1 qa0w8_2 qa0w8_3
      have Xa1w9 := Lib.hid (Xa1w8.out.out ow9 (by omega))
      clear Xa1w8 qa1w8_0 qa1w8_1 qa1w8_2 qa1w8_3 qa1w8_4
      have Xww9 := Lib.hid (Xww8.out.out ow9 (by omega))
      clear Xww8 qww8_0 qww8_1 qww8_2 qww8_3
      have Xxw9 := Lib.hid (Xxw8.out.out ow9 (by omega))
      clear Xxw8 qxw8_0 qxw8_1 qxw8_2 qxw8_3
      have Xgw9 := Lib.hid (Xgw8.out.out ow9 (by omega))
      clear Xgw8 qgw8_0 qgw8_1 qgw8_2 qgw8_3
      have ⟨qa0w9_0, qa0w9_1, qa0w9_2, qa0w9_3⟩ := Xa0w9.out.open3
      have ⟨qa1w9_0, qa1w9_1, qa1w9_2, qa1w9_3, qa1w9_4⟩ := Xa1w9.out.open4
      have ⟨qww9_0, qww9_1, qww9_2, qww9_3⟩ := Xww9.out.open3
      have ⟨qxw9_0, qxw9_1, qxw9_2, qxw9_3⟩ := Xxw9.out.open3
      have ⟨qgw9_0, qgw9_1, qgw9_2, qgw9_3⟩ := Xgw9.out.open3
      have Iww9 := Lib.hid (Iww8.out.out ow9 (by omega))
      clear Iww8
      clear Ixw8
      have Igw9 := Lib.hid (Igw8.out.out ow9 (by omega))
      clear Igw8
      have Itw9 := Lib.hid (Itw8.out.out ow9 (by omega))
      clear Itw8
      have Ixw9 := Lib.hid Ow9
      clear Ow9
      go_wp2_with fail
      refine (eqImage_same _ _ _ _ _ _ _ _ (lov5) (hiv5) (lov2) (hiv2) (Pl.crop ⟨ix0, iy0, zs0⟩ ⟨rx1, ry1, rw1, rh1⟩).d _ (Igw9.out.step (by go_grown)) (Iww9.out.step (by go_grown))).mono ?_
      rintro e w10 ⟨rfl, hbw10⟩
      have bw10 : Below w9.heap.size w9 w10 := later (by go_grown) hbw10
      have Bw10 : Below w.heap.size w w10 := Bw9.trans (bw10.mono bsw9)
      have sw10 := hbw10.size
      (try simp at sw10)
      have tw10 := bw10.size
      have bsw10 := Bw10.size
      have Xa0w10 := Lib.hid (Xa0w9.out.step bw10)
      clear Xa0w9 qa0w9_0 qa0w9_1 qa0w9_2 qa0w9_3
      have Xa1w10 := Lib.hid (Xa1w9.out.step bw10)
      clear Xa1w9 qa1w9_0 qa1w9_1 qa1w9_2 qa1w9_3 qa1w9_4
      have Xww10 := Lib.hid (Xww9.out.step bw10)
      clear Xww9 qww9_0 qww9_1 qww9_2 qww9_3
      have Xxw10 := Lib.hid (Xxw9.out.step bw10)
      clear Xxw9 qxw9_0 qxw9_1 qxw9_2 qxw9_3
      have Xgw10 := Lib.hid (Xgw9.out.step bw10)
      clear Xgw9 qgw9_0 qgw9_1 qgw9_2 qgw9_3
      have ⟨qa0w10_0, qa0w10_1, qa0w10_2, qa0w10_3⟩ := Xa0w10.out.open3
      have ⟨qa1w10_0, qa1w10_1, qa1w10_2, qa1w10_3, qa1w10_4⟩ := Xa1w10.out.open4
      have ⟨qww10_0, qww10_1, qww10_2, qww10_3⟩ := Xww10.out.open3
      have ⟨qxw10_0, qxw10_1, qxw10_2, qxw10_3⟩ := Xxw10.out.open3
      have ⟨qgw10_0, qgw10_1, qgw10_2, qgw10_3⟩ := Xgw10.out.open3
      have Iww10 := Lib.hid (Iww9.out.step bw10)
      clear Iww9
      have Ixw10 := Lib.hid (Ixw9.out.step bw10)
      clear Ixw9
      have Igw10 := Lib.hid (Igw9.out.step bw10)
      clear Igw9
      have Itw10 := Lib.hid (Itw9.out.step bw10)
      clear Itw9
      go_wp2_with fail
      refine (markImage_any _ _ _ _ _ (lov5) (hiv5) (Pl.crop ⟨ix0, iy0, zs0⟩ ⟨rx1, ry1, rw1, rh1⟩).d _ _ (Igw10.out.step (by go_grown)) (by omega) (by omega)).mono ?_
      rintro e w11 ⟨rfl, Ow11, how11⟩
      have ow11 : Out (lov5) (hiv5) w10 w11 := (Out.of_below (by go_grown) _ _).trans how11
      have Bw11 : Below w.heap.size w w11 := below_out Bw10 ow11 (by omega) bsw10
      have tw11 := ow11.size
      have bsw11 := Bw11.size
      have Xa0w11 := Lib.hid (Xa0w10.out.out ow11 (by omega))
      clear Xa0w10 qa0w10_0 qa0w10_1 qa0w10_2 qa0w10_3
      have Xa1w11 := Lib.hid (Xa1w10.out.out ow11 (by omega))
      clear Xa1w10 qa1w10_0 qa1w10_1 qa1w10_2 qa1w10_3 qa1w10_4
      have Xww11 := Lib.hid (Xww10.out.out ow11 (by omega))
      clear Xww10 qww10_0 qww10_1 qww10_2 qww10_3
      have Xxw11 := Lib.hid (Xxw10.out.out ow11 (by omega))
      clear Xxw10 qxw10_0 qxw10_1 qxw10_2 qxw10_3
      have Xgw11 := Lib.hid (Xgw10.out.out ow11 (by omega))
      clear Xgw10 qgw10_0 qgw10_1 qgw10_2 qgw10_3
      have ⟨qa0w11_0, qa0w11_1, qa0w11_2, qa0w11_3⟩ := Xa0w11.out.open3
      have ⟨qa1w11_0, qa1w11_1, qa1w11_2, qa1w11_3, qa1w11_4⟩ := Xa1w11.out.open4
      have ⟨qww11_0, qww11_1, qww11_2, qww11_3⟩ := Xww11.out.open3
      have ⟨qxw11_0, qxw11_1, qxw11_2, qxw11_3⟩ := Xxw11.out.open3
      have ⟨qgw11_0, qgw11_1, qgw11_2, qgw11_3⟩ := Xgw11.out.open3
      have Iww11 := Lib.hid (Iww10.out.out ow11 (by omega))
      clear Iww10
      have Ixw11 := Lib.hid (Ixw10.out.out ow11 (by omega))
      clear Ixw10
      clear Igw10
      have Itw11 := Lib.hid (Itw10.out.out ow11 (by omega))
      clear Itw10
      have Igw11 := Lib.hid Ow11
      clear Ow11
      go_wp2_with fail
      refine (heldImage_same _ _ _ _ _ (lov5) (hiv5) _ _ (Igw11.out.step (by go_grown)) (by omega) (by omega)).mono ?_
      rintro e w12 ⟨rfl, hbw12⟩
      have bw12 : Below w11.heap.size w11 w12 := later (by go_grown) hbw12
      have Bw12 : Below w.heap.size w w12 := Bw11.trans (bw12.mono bsw11)
      have sw12 := hbw12.size
      (try simp at sw12)
      have tw12 := bw12.size
      have bsw12 := Bw12.size
      have Xa0w12 := Lib.hid (Xa0w11.out.step bw12)
      clear Xa0w11 qa0w11_0 qa0w11_1 qa0w11_2 qa0w11_3
      have Xa1w12 := Lib.hid (Xa1w11.out.step bw12)
      clear Xa1w11 qa1w11_0 qa1w11_1 qa1w11_2 qa1w11_3 qa1w11_4
      have Xww12 := Lib.hid (Xww11.out.step bw12)
      clear Xww11 qww11_0 qww11_1 qww11_2 qww11_3
      have Xxw12 := Lib.hid (Xxw11.out.step bw12)
      clear Xxw11 qxw11_0 qxw11_1 qxw11_2 qxw11_3
      have Xgw12 := Lib.hid (Xgw11.out.step bw12)
      clear Xgw11 qgw11_0 qgw11_1 qgw11_2 qgw11_3
      have ⟨qa0w12_0, qa0w12_1, qa0w12_2, qa0w12_3⟩ := Xa0w12.out.open3
      have ⟨qa1w12_0, qa1w12_1, qa1w12_2, qa1w12_3, qa1w12_4⟩ := Xa1w12.out.open4
      have ⟨qww12_0, qww12_1, qww12_2, qww12_3⟩ := Xww12.out.open3
      have ⟨qxw12_0, qxw12_1, qxw12_2, qxw12_3⟩ := Xxw12.out.open3
      have ⟨qgw12_0, qgw12_1, qgw12_2, qgw12_3⟩ := Xgw12.out.open3
      have Iww12 := Lib.hid (Iww11.out.step bw12)
      clear Iww11
      have Ixw12 := Lib.hid (Ixw11.out.step bw12)
      clear Ixw11
      have Igw12 := Lib.hid (Igw11.out.step bw12)
      clear Igw11
      have Itw12 := Lib.hid (Itw11.out.step bw12)
      clear Itw11
      go_upto_region 24 with fail
      go_cut [14, 15] (fun s14 s15 wx => s15 = .bool ok ∧ ∃ bk : Nat, s14 = .pointer (some ⟨bk, 0, none⟩) ∧ NewVar w12 wx bk (fun (AA : Option Addr) (cc : Nat) => ([.int .i64 (Pl.crop ⟨ix0, iy0, zs0⟩ ⟨rx1, ry1, rw1, rh1⟩).w, .int .i64 (Pl.crop ⟨ix0, iy0, zs0⟩ ⟨rx1, ry1, rw1, rh1⟩).h, .slice AA (Pl.crop ⟨ix0, iy0, zs0⟩ ⟨rx1, ry1, rw1, rh1⟩).d.length cc] : List Value)) (Pl.crop ⟨ix0, iy0, zs0⟩ ⟨rx1, ry1, rw1, rh1⟩).d.length (Pl.crop ⟨ix0, iy0, zs0⟩ ⟨rx1, ry1, rw1, rh1⟩).d)
      case first =>
        clear Xww12 qww12_0 qww12_1 qww12_2 qww12_3
        clear Xxw12 qxw12_0 qxw12_1 qxw12_2 qxw12_3
        clear Xgw12 qgw12_0 qgw12_1 qgw12_2 qgw12_3
        clear Iww12
        clear Igw12
        clear Itw12
        refine regionL (S := (fun w' => w'.cell? ⟨w.heap.size, 0, none⟩ = some (.int .i64 ix0) ∧ w'.cell? ⟨w.heap.size, 1, none⟩ = some (.int .i64 iy0) ∧ w'.cell? ⟨w.heap.size, 2, none⟩ = some (.slice A0 n0 c0) ∧ w'.cell? ⟨w.heap.size + 1, 0, none⟩ = some (.int .i64 rx1) ∧ w'.cell? ⟨w.heap.size + 1, 1, none⟩ = some (.int .i64 ry1) ∧ w'.cell? ⟨w.heap.size + 1, 2, none⟩ = some (.int .i64 rw1) ∧ w'.cell? ⟨w.heap.size + 1, 3, none⟩ = some (.int .i64 rh1))) (L := 11) (by kernel_rfl) ?_ (fun hHeld => ?_)
        · (((try dsimp only); (repeat' apply And.intro) <;> (first | (simp only [World.cell?_drew, *]; done) | (simp (disch := (first | omega | (simp; omega))) only [cell_far, cell_old, World.cell?_drew, *]; done))))
        refine takeL (i := 0) (oi := ?_) (v := ?_) ?_ (by kernel_rfl) (by kernel_rfl) (by kernel_rfl) (by kernel_rfl) ?_ (Or.inl ⟨?_, ?_⟩) (by assumption) ?_
        rotate_left 2
        · (simp only [List.getElem?_toArray, List.getElem?_cons_succ, List.getElem?_cons_zero]; rfl)
        · exact fun _ _ _ h => h
        · rfl
        · (intro w hSw; (try dsimp only at hSw); go_simp; (try with_reducible rfl))
        try simp only [Act.put, List.setIfInBounds_toArray, List.set_cons_zero, List.set_cons_succ]
        refine takeL (i := 2) (oi := ?_) (v := ?_) ?_ (by kernel_rfl) (by kernel_rfl) (by kernel_rfl) (by kernel_rfl) ?_ (Or.inl ⟨?_, ?_⟩) (by assumption) ?_
        rotate_left 2
        · (simp only [List.getElem?_toArray, List.getElem?_cons_succ, List.getElem?_cons_zero]; rfl)
        · exact fun _ _ _ h => h
        · rfl
        · (intro w hSw; (try dsimp only at hSw); go_simp; (try with_reducible rfl))
        try simp only [Act.put, List.setIfInBounds_toArray, List.set_cons_zero, List.set_cons_succ]
        refine readyL (rs := [1, 8]) (by kernel_rfl) (by simp) ?_
        refine AllReadyL.cons (o := ?_) ?_ (fun K hK => ?_) ?_
        rotate_left
        · (simp only [List.getElem?_toArray, List.getElem?_cons_succ, List.getElem?_cons_zero]; rfl)
        · go_simp
          go_at_call 16
          ((with_reducible refine (toImage_any _ _ _ _ _ zs0 _ (arg0.out.below (by go_grown)) L0.out hsm0).mono ?_))
          rintro e w13 ⟨Aw13, cw13, rfl, Ow13, hbw13⟩
          have bw13 : Below w12.heap.size w12 w13 := later (by go_grown) hbw13
          have Bw13 : Below w.heap.size w w13 := Bw12.trans (bw13.mono bsw12)
          have sw13 := hbw13.size
          (try simp at sw13)
          have tw13 := bw13.size
          have bsw13 := Bw13.size
          have Xa0w13 := Lib.hid (Xa0w12.out.step bw13)
          clear Xa0w12 qa0w12_0 qa0w12_1 qa0w12_2 qa0w12_3
          have Xa1w13 := Lib.hid (Xa1w12.out.step bw13)
          clear Xa1w12 qa1w12_0 qa1w12_1 qa1w12_2 qa1w12_3 qa1w12_4
          have ⟨qa0w13_0, qa0w13_1, qa0w13_2, qa0w13_3⟩ := Xa0w13.out.open3
          have ⟨qa1w13_0, qa1w13_1, qa1w13_2, qa1w13_3, qa1w13_4⟩ := Xa1w13.out.open4
          have Ixw13 := Lib.hid (Ixw12.out.step bw13)
          clear Ixw12
          have Itw13 : Hid (Ints w13 (w12.heap.size) w13.heap.size _ _) := Own.mono Ow13 (by (try simp); (try omega)) (Nat.le_refl _) (Nat.le_refl _)
          clear Ow13
          refine hK.out _ _ ?_ (fun hHeld => ?_)
          · (((try dsimp only); (repeat' apply And.intro) <;> (first | (simp only [World.cell?_drew, *]; done) | (simp (disch := (first | omega | (simp; omega))) only [cell_far, cell_old, World.cell?_drew, *]; done))))
          clear hK K
          try simp only [Act.put, List.setIfInBounds_toArray, List.set_cons_zero, List.set_cons_succ]
          refine readyL (rs := [3, 8]) (by kernel_rfl) (by simp) ?_
          refine AllReadyL.cons (o := ?_) ?_ (fun K hK => ?_) ?_
          rotate_left
          · (simp only [List.getElem?_toArray, List.getElem?_cons_succ, List.getElem?_cons_zero]; rfl)
          · go_simp
            go_at_call 32
            ((with_reducible refine (toRect_any rx1 ry1 rw1 rh1 _).mono ?_))
            rintro e w14 ⟨rfl, hbw14⟩
            have bw14 : Below w13.heap.size w13 w14 := later (by go_grown) hbw14
            have Bw14 : Below w.heap.size w w14 := Bw13.trans (bw14.mono bsw13)
            have sw14 := hbw14.size
            (try simp at sw14)
            have tw14 := bw14.size
            have bsw14 := Bw14.size
            have Xa0w14 := Lib.hid (Xa0w13.out.step bw14)
            clear Xa0w13 qa0w13_0 qa0w13_1 qa0w13_2 qa0w13_3
            have Xa1w14 := Lib.hid (Xa1w13.out.step bw14)
            clear Xa1w13 qa1w13_0 qa1w13_1 qa1w13_2 qa1w13_3 qa1w13_4
            have ⟨qa0w14_0, qa0w14_1, qa0w14_2, qa0w14_3⟩ := Xa0w14.out.open3
            have ⟨qa1w14_0, qa1w14_1, qa1w14_2, qa1w14_3, qa1w14_4⟩ := Xa1w14.out.open4
            have Ixw14 := Lib.hid (Ixw13.out.step bw14)
            clear Ixw13
            have Itw14 := Lib.hid (Itw13.out.step bw14)
            clear Itw13
            refine hK.out _ _ ?_ (fun hHeld => ?_)
            · (((try dsimp only); (repeat' apply And.intro) <;> (first | (simp only [World.cell?_drew, *]; done) | (simp (disch := (first | omega | (simp; omega))) only [cell_far, cell_old, World.cell?_drew, *]; done))))
            clear hK K
            try simp only [Act.put, List.setIfInBounds_toArray, List.set_cons_zero, List.set_cons_succ]
            refine readyL (rs := [4, 8]) (by kernel_rfl) (by simp) ?_
            refine AllReadyL.cons (o := ?_) ?_ (fun K hK => ?_) ?_
            rotate_left
            · (simp only [List.getElem?_toArray, List.getElem?_cons_succ, List.getElem?_cons_zero]; rfl)
            · go_simp
              go_at_call 33
              ((with_reducible refine (implCrop _ _ _ _ _ (w12.heap.size) (w13.heap.size) zs0 _ _ _ _ _ (Itw14.out.step (by go_grown))).mono ?_))
              rw [← HOK.out]
              rintro e w15 ⟨Aw15, cw15, rfl, Ow15, hbw15⟩
              have bw15 : Below w14.heap.size w14 w15 := later (by go_grown) hbw15
              have Bw15 : Below w.heap.size w w15 := Bw14.trans (bw15.mono bsw14)
              have sw15 := hbw15.size
              (try simp at sw15)
              have tw15 := bw15.size
              have bsw15 := Bw15.size
              have Xa0w15 := Lib.hid (Xa0w14.out.step bw15)
              clear Xa0w14 qa0w14_0 qa0w14_1 qa0w14_2 qa0w14_3
              have Xa1w15 := Lib.hid (Xa1w14.out.step bw15)
              clear Xa1w14 qa1w14_0 qa1w14_1 qa1w14_2 qa1w14_3 qa1w14_4
              have ⟨qa0w15_0, qa0w15_1, qa0w15_2, qa0w15_3⟩ := Xa0w15.out.open3
              have ⟨qa1w15_0, qa1w15_1, qa1w15_2, qa1w15_3, qa1w15_4⟩ := Xa1w15.out.open4
              have Ixw15 := Lib.hid (Ixw14.out.step bw15)
              clear Ixw14
              have Itw15 := Lib.hid (Itw14.out.step bw15)
              clear Itw14
              have Ihw15 := Lib.hid Ow15
              clear Ow15
              refine hK.out _ _ ?_ (fun hHeld => ?_)
              · (((try dsimp only); (repeat' apply And.intro) <;> (first | (simp only [World.cell?_drew, *]; done) | (simp (disch := (first | omega | (simp; omega))) only [cell_far, cell_old, World.cell?_drew, *]; done))))
              clear hK K
              try simp only [Act.put, List.setIfInBounds_toArray, List.set_cons_zero, List.set_cons_succ]
              refine takeL (i := 5) (oi := ?_) (v := ?_) ?_ (by kernel_rfl) (by kernel_rfl) (by kernel_rfl) (by kernel_rfl) ?_ (Or.inl ⟨?_, ?_⟩) (by assumption) ?_
              rotate_left 2
              · (simp only [List.getElem?_toArray, List.getElem?_cons_succ, List.getElem?_cons_zero]; rfl)
              · exact fun _ _ _ h => h
              · rfl
              · (intro w hSw; (try dsimp only at hSw); go_simp; (try with_reducible rfl))
              try simp only [Act.put, List.setIfInBounds_toArray, List.set_cons_zero, List.set_cons_succ]
              refine takeL (i := 6) (oi := ?_) (v := ?_) ?_ (by kernel_rfl) (by kernel_rfl) (by kernel_rfl) (by kernel_rfl) ?_ (Or.inl ⟨?_, ?_⟩) (by assumption) ?_
              rotate_left 2
              · (simp only [List.getElem?_toArray, List.getElem?_cons_succ, List.getElem?_cons_zero]; rfl)
              · exact fun _ _ _ h => h
              · rfl
              · (intro w hSw; (try dsimp only at hSw); go_simp; (try with_reducible rfl))
              try simp only [Act.put, List.setIfInBounds_toArray, List.set_cons_zero, List.set_cons_succ]
              refine takeL (i := 7) (oi := ?_) (v := ?_) ?_ (by kernel_rfl) (by kernel_rfl) (by kernel_rfl) (by kernel_rfl) ?_ (Or.inl ⟨?_, ?_⟩) (by assumption) ?_
              rotate_left 2
              · (simp only [List.getElem?_toArray, List.getElem?_cons_succ, List.getElem?_cons_zero]; rfl)
              · exact fun _ _ _ h => h
              · rfl
              · (intro w hSw; (try dsimp only at hSw); go_simp; (try with_reducible rfl))
              try simp only [Act.put, List.setIfInBounds_toArray, List.set_cons_zero, List.set_cons_succ]
              refine readyL (rs := [8]) (by kernel_rfl) (by simp) ?_
              refine AllReadyL.cons (o := ?_) ?_ (fun K hK => ?_) AllReadyL.none_
              rotate_left
              · (simp only [List.getElem?_toArray, List.getElem?_cons_succ, List.getElem?_cons_zero]; rfl)
              go_simp
              refine hK.out _ _ ?_ (fun hHeld => ?_)
              · (((try dsimp only); (repeat' apply And.intro) <;> (first | (simp only [World.cell?_drew, *]; done) | (simp (disch := (first | omega | (simp; omega))) only [cell_far, cell_old, World.cell?_drew, *]; done))))
              clear hK K
              try simp only [Act.put, List.setIfInBounds_toArray, List.set_cons_zero, List.set_cons_succ]
              refine readyL (rs := [9]) (by kernel_rfl) (by simp) ?_
              refine AllReadyL.cons (o := ?_) ?_ (fun K hK => ?_) AllReadyL.none_
              rotate_left
              · (simp only [List.getElem?_toArray, List.getElem?_cons_succ, List.getElem?_cons_zero]; rfl)
              go_simp
              refine hK.out _ _ ?_ (fun hHeld => ?_)
              · (((try dsimp only); (repeat' apply And.intro) <;> (first | (simp only [World.cell?_drew, *]; done) | (simp (disch := (first | omega | (simp; omega))) only [cell_far, cell_old, World.cell?_drew, *]; done))))
              clear hK K
              try simp only [Act.put, List.setIfInBounds_toArray, List.set_cons_zero, List.set_cons_succ]
              refine takeL (i := 10) (oi := ?_) (v := ?_) ?_ (by kernel_rfl) (by kernel_rfl) (by kernel_rfl) (by kernel_rfl) ?_ (Or.inl ⟨?_, ?_⟩) (by assumption) ?_
              rotate_left 2
              · (simp only [List.getElem?_toArray, List.getElem?_cons_succ, List.getElem?_cons_zero]; rfl)
              · exact fun _ _ _ h => h
              · rfl
              · (intro w hSw; (try dsimp only at hSw); go_simp; (try with_reducible rfl))
              try simp only [Act.put, List.setIfInBounds_toArray, List.set_cons_zero, List.set_cons_succ]
              refine doneL (by kernel_rfl) ?_ _
              go_wp2_with fail
              go_meet
              case rel =>
                have BJ : Below w12.heap.size w12 w15 := ((bw13.trans (bw14.mono (by omega))).trans (bw15.mono (by omega)))
                with_reducible refine ⟨rfl, _, rfl, NewVar.make (Ints.alloc Ihw15.out _) ?_ ?_ ?_ ?_ ?_⟩
                · go_grown
                · exact Box.of3 (Below.refl _ _) _ (by first | omega | (simp; done) | (simp; omega)) (by simp [go_sem]; done) (by simp [go_sem]; done) (by simp [go_sem]; done)
                all_goals first | omega | (simp; done) | (simp; omega)
            refine AllReadyL.cons (o := ?_) ?_ (fun K hK => ?_) ?_
            rotate_left
            · (simp only [List.getElem?_toArray, List.getElem?_cons_succ, List.getElem?_cons_zero]; rfl)
            · go_simp
              refine hK.out _ _ ?_ (fun hHeld => ?_)
              · (((try dsimp only); (repeat' apply And.intro) <;> (first | (simp only [World.cell?_drew, *]; done) | (simp (disch := (first | omega | (simp; omega))) only [cell_far, cell_old, World.cell?_drew, *]; done))))
              clear hK K
              try simp only [Act.put, List.setIfInBounds_toArray, List.set_cons_zero, List.set_cons_succ]
              refine readyL (rs := [4]) (by kernel_rfl) (by simp) ?_
              refine AllReadyL.cons (o := ?_) ?_ (fun K hK => ?_) AllReadyL.none_
              rotate_left
              · (simp only [List.getElem?_toArray, List.getElem?_cons_succ, List.getElem?_cons_zero]; rfl)
              go_simp
              go_at_call 33
              ((with_reducible refine (implCrop _ _ _ _ _ (w12.heap.size) (w13.heap.size) zs0 _ _ _ _ _ (Itw14.out.step (by go_grown))).mono ?_))
              rw [← HOK.out]
              rintro e w15 ⟨Aw15, cw15, rfl, Ow15, hbw15⟩
              have bw15 : Below w14.heap.size w14 w15 := later (by go_grown) hbw15
              have Bw15 : Below w.heap.size w w15 := Bw14.trans (bw15.mono bsw14)
              have sw15 := hbw15.size
              (try simp at sw15)
              have tw15 := bw15.size
              have bsw15 := Bw15.size
              have Xa0w15 := Lib.hid (Xa0w14.out.step bw15)
              clear Xa0w14 qa0w14_0 qa0w14_1 qa0w14_2 qa0w14_3
              have Xa1w15 := Lib.hid (Xa1w14.out.step bw15)
              clear Xa1w14 qa1w14_0 qa1w14_1 qa1w14_2 qa1w14_3 qa1w14_4
              have ⟨qa0w15_0, qa0w15_1, qa0w15_2, qa0w15_3⟩ := Xa0w15.out.open3
              have ⟨qa1w15_0, qa1w15_1, qa1w15_2, qa1w15_3, qa1w15_4⟩ := Xa1w15.out.open4
              have Ixw15 := Lib.hid (Ixw14.out.step bw15)
              clear Ixw14
              have Itw15 := Lib.hid (Itw14.out.step bw15)
              clear Itw14
              have Ihw15 := Lib.hid Ow15
              clear Ow15
              have ⟨kw15, fw15, yw15⟩ := keep3 hbw15 (w14.heap.size) (by first | omega | (simp; done) | (simp; omega))
              refine hK.out _ _ ?_ (fun hHeld => ?_)
              · (((try dsimp only); (repeat' apply And.intro) <;> (first | (simp only [World.cell?_drew, *]; done) | (simp (disch := (first | omega | (simp; omega))) only [cell_far, cell_old, World.cell?_drew, *]; done))))
              clear hK K
              try simp only [Act.put, List.setIfInBounds_toArray, List.set_cons_zero, List.set_cons_succ]
              refine takeL (i := 5) (oi := ?_) (v := ?_) ?_ (by kernel_rfl) (by kernel_rfl) (by kernel_rfl) (by kernel_rfl) ?_ (Or.inl ⟨?_, ?_⟩) (by assumption) ?_
              rotate_left 2
              · (simp only [List.getElem?_toArray, List.getElem?_cons_succ, List.getElem?_cons_zero]; rfl)
              · exact fun _ _ _ h => h
              · rfl
              · (intro w hSw; (try dsimp only at hSw); go_simp; (try with_reducible rfl))
              try simp only [Act.put, List.setIfInBounds_toArray, List.set_cons_zero, List.set_cons_succ]
              refine takeL (i := 6) (oi := ?_) (v := ?_) ?_ (by kernel_rfl) (by kernel_rfl) (by kernel_rfl) (by kernel_rfl) ?_ (Or.inl ⟨?_, ?_⟩) (by assumption) ?_
              rotate_left 2
              · (simp only [List.getElem?_toArray, List.getElem?_cons_succ, List.getElem?_cons_zero]; rfl)
              · exact fun _ _ _ h => h
              · rfl
              · (intro w hSw; (try dsimp only at hSw); go_simp; (try with_reducible rfl))
              try simp only [Act.put, List.setIfInBounds_toArray, List.set_cons_zero, List.set_cons_succ]
              refine takeL (i := 7) (oi := ?_) (v := ?_) ?_ (by kernel_rfl) (by kernel_rfl) (by kernel_rfl) (by kernel_rfl) ?_ (Or.inl ⟨?_, ?_⟩) (by assumption) ?_
              rotate_left 2
              · (simp only [List.getElem?_toArray, List.getElem?_cons_succ, List.getElem?_cons_zero]; rfl)
              · exact fun _ _ _ h => h
              · rfl
              · (intro w hSw; (try dsimp only at hSw); go_simp; (try with_reducible rfl))
              try simp only [Act.put, List.setIfInBounds_toArray, List.set_cons_zero, List.set_cons_succ]
              refine readyL (rs := [9]) (by kernel_rfl) (by simp) ?_
              refine AllReadyL.cons (o := ?_) ?_ (fun K hK => ?_) AllReadyL.none_
              rotate_left
              · (simp only [List.getElem?_toArray, List.getElem?_cons_succ, List.getElem?_cons_zero]; rfl)
              go_simp
              refine hK.out _ _ ?_ (fun hHeld => ?_)
              · (((try dsimp only); (repeat' apply And.intro) <;> (first | (simp only [World.cell?_drew, *]; done) | (simp (disch := (first | omega | (simp; omega))) only [cell_far, cell_old, World.cell?_drew, *]; done))))
              clear hK K
              try simp only [Act.put, List.setIfInBounds_toArray, List.set_cons_zero, List.set_cons_succ]
              refine takeL (i := 10) (oi := ?_) (v := ?_) ?_ (by kernel_rfl) (by kernel_rfl) (by kernel_rfl) (by kernel_rfl) ?_ (Or.inl ⟨?_, ?_⟩) (by assumption) ?_
              rotate_left 2
              · (simp only [List.getElem?_toArray, List.getElem?_cons_succ, List.getElem?_cons_zero]; rfl)
              · exact fun _ _ _ h => h
              · rfl
              · (intro w hSw; (try dsimp only at hSw); go_simp; (try with_reducible rfl))
              try simp only [Act.put, List.setIfInBounds_toArray, List.set_cons_zero, List.set_cons_succ]
              refine doneL (by kernel_rfl) ?_ _
              go_wp2_with fail
              go_meet
              case rel =>
                have BJ : Below w12.heap.size w12 w15 := ((bw13.trans (bw14.mono (by omega))).trans (bw15.mono (by omega)))
                refine ⟨rfl, _, rfl, NewVar.make (Ints.setc3 Ihw15.out (by first | (left; omega) | (right; omega) | (left; simp; done) | (left; simp; omega) | (right; simp; omega)) _ _ _) ?_ ?_ ?_ ?_ ?_⟩
                · go_grown
                · with_reducible exact Box.set3 (u0 := .int .i64 0) (u1 := .int .i64 0) (u2 := .slice none 0 0) (by rw [kw15]; simp [go_sem]; done) (by rw [kw15]; simp [go_sem]; done) (by rw [kw15]; simp [go_sem]; done)
                all_goals first | omega | (simp; done) | (simp; omega)
            exact AllReadyL.none_
          refine AllReadyL.cons (o := ?_) ?_ (fun K hK => ?_) ?_
          rotate_left
          · (simp only [List.getElem?_toArray, List.getElem?_cons_succ, List.getElem?_cons_zero]; rfl)
          · go_simp
            refine hK.out _ _ ?_ (fun hHeld => ?_)
            · (((try dsimp only); (repeat' apply And.intro) <;> (first | (simp only [World.cell?_drew, *]; done) | (simp (disch := (first | omega | (simp; omega))) only [cell_far, cell_old, World.cell?_drew, *]; done))))
            clear hK K
            try simp only [Act.put, List.setIfInBounds_toArray, List.set_cons_zero, List.set_cons_succ]
            refine readyL (rs := [3]) (by kernel_rfl) (by simp) ?_
            refine AllReadyL.cons (o := ?_) ?_ (fun K hK => ?_) AllReadyL.none_
            rotate_left
            · (simp only [List.getElem?_toArray, List.getElem?_cons_succ, List.getElem?_cons_zero]; rfl)
            go_simp
            go_at_call 32
            ((with_reducible refine (toRect_any rx1 ry1 rw1 rh1 _).mono ?_))
            rintro e w14 ⟨rfl, hbw14⟩
            have bw14 : Below w13.heap.size w13 w14 := later (by go_grown) hbw14
            have Bw14 : Below w.heap.size w w14 := Bw13.trans (bw14.mono bsw13)
            have sw14 := hbw14.size
            (try simp at sw14)
            have tw14 := bw14.size
            have bsw14 := Bw14.size
            have Xa0w14 := Lib.hid (Xa0w13.out.step bw14)
            clear Xa0w13 qa0w13_0 qa0w13_1 qa0w13_2 qa0w13_3
            have Xa1w14 := Lib.hid (Xa1w13.out.step bw14)
            clear Xa1w13 qa1w13_0 qa1w13_1 qa1w13_2 qa1w13_3 qa1w13_4
            have ⟨qa0w14_0, qa0w14_1, qa0w14_2, qa0w14_3⟩ := Xa0w14.out.open3
            have ⟨qa1w14_0, qa1w14_1, qa1w14_2, qa1w14_3, qa1w14_4⟩ := Xa1w14.out.open4
            have Ixw14 := Lib.hid (Ixw13.out.step bw14)
            clear Ixw13
            have Itw14 := Lib.hid (Itw13.out.step bw14)
            clear Itw13
            have ⟨kw14, fw14, yw14⟩ := keep3 hbw14 (w13.heap.size) (by first | omega | (simp; done) | (simp; omega))
            refine hK.out _ _ ?_ (fun hHeld => ?_)
            · (((try dsimp only); (repeat' apply And.intro) <;> (first | (simp only [World.cell?_drew, *]; done) | (simp (disch := (first | omega | (simp; omega))) only [cell_far, cell_old, World.cell?_drew, *]; done))))
            clear hK K
            try simp only [Act.put, List.setIfInBounds_toArray, List.set_cons_zero, List.set_cons_succ]
            refine readyL (rs := [4]) (by kernel_rfl) (by simp) ?_
            refine AllReadyL.cons (o := ?_) ?_ (fun K hK => ?_) AllReadyL.none_
            rotate_left
            · (simp only [List.getElem?_toArray, List.getElem?_cons_succ, List.getElem?_cons_zero]; rfl)
            go_simp
            go_at_call 33
            ((with_reducible refine (implCrop _ _ _ _ _ (w12.heap.size) (w13.heap.size) zs0 _ _ _ _ _ (Itw14.out.step (by go_grown))).mono ?_))
            rw [← HOK.out]
            rintro e w15 ⟨Aw15, cw15, rfl, Ow15, hbw15⟩
            have bw15 : Below w14.heap.size w14 w15 := later (by go_grown) hbw15
            have Bw15 : Below w.heap.size w w15 := Bw14.trans (bw15.mono bsw14)
            have sw15 := hbw15.size
            (try simp at sw15)
            have tw15 := bw15.size
            have bsw15 := Bw15.size
            have Xa0w15 := Lib.hid (Xa0w14.out.step bw15)
            clear Xa0w14 qa0w14_0 qa0w14_1 qa0w14_2 qa0w14_3
            have Xa1w15 := Lib.hid (Xa1w14.out.step bw15)
            clear Xa1w14 qa1w14_0 qa1w14_1 qa1w14_2 qa1w14_3 qa1w14_4
            have ⟨qa0w15_0, qa0w15_1, qa0w15_2, qa0w15_3⟩ := Xa0w15.out.open3
            have ⟨qa1w15_0, qa1w15_1, qa1w15_2, qa1w15_3, qa1w15_4⟩ := Xa1w15.out.open4
            have Ixw15 := Lib.hid (Ixw14.out.step bw15)
            clear Ixw14
            have Itw15 := Lib.hid (Itw14.out.step bw15)
            clear Itw14
            have Ihw15 := Lib.hid Ow15
            clear Ow15
            have ⟨kw15, fw15, yw15⟩ := keep3 hbw15 (w13.heap.size) (by first | omega | (simp; done) | (simp; omega))
            refine hK.out _ _ ?_ (fun hHeld => ?_)
            · (((try dsimp only); (repeat' apply And.intro) <;> (first | (simp only [World.cell?_drew, *]; done) | (simp (disch := (first | omega | (simp; omega))) only [cell_far, cell_old, World.cell?_drew, *]; done))))
            clear hK K
            try simp only [Act.put, List.setIfInBounds_toArray, List.set_cons_zero, List.set_cons_succ]
            refine takeL (i := 5) (oi := ?_) (v := ?_) ?_ (by kernel_rfl) (by kernel_rfl) (by kernel_rfl) (by kernel_rfl) ?_ (Or.inl ⟨?_, ?_⟩) (by assumption) ?_
            rotate_left 2
            · (simp only [List.getElem?_toArray, List.getElem?_cons_succ, List.getElem?_cons_zero]; rfl)
            · exact fun _ _ _ h => h
            · rfl
            · (intro w hSw; (try dsimp only at hSw); go_simp; (try with_reducible rfl))
            try simp only [Act.put, List.setIfInBounds_toArray, List.set_cons_zero, List.set_cons_succ]
            refine takeL (i := 6) (oi := ?_) (v := ?_) ?_ (by kernel_rfl) (by kernel_rfl) (by kernel_rfl) (by kernel_rfl) ?_ (Or.inl ⟨?_, ?_⟩) (by assumption) ?_
            rotate_left 2
            · (simp only [List.getElem?_toArray, List.getElem?_cons_succ, List.getElem?_cons_zero]; rfl)
            · exact fun _ _ _ h => h
            · rfl
            · (intro w hSw; (try dsimp only at hSw); go_simp; (try with_reducible rfl))
            try simp only [Act.put, List.setIfInBounds_toArray, List.set_cons_zero, List.set_cons_succ]
            refine takeL (i := 7) (oi := ?_) (v := ?_) ?_ (by kernel_rfl) (by kernel_rfl) (by kernel_rfl) (by kernel_rfl) ?_ (Or.inl ⟨?_, ?_⟩) (by assumption) ?_
            rotate_left 2
            · (simp only [List.getElem?_toArray, List.getElem?_cons_succ, List.getElem?_cons_zero]; rfl)
            · exact fun _ _ _ h => h
            · rfl
            · (intro w hSw; (try dsimp only at hSw); go_simp; (try with_reducible rfl))
            try simp only [Act.put, List.setIfInBounds_toArray, List.set_cons_zero, List.set_cons_succ]
            refine readyL (rs := [9]) (by kernel_rfl) (by simp) ?_
            refine AllReadyL.cons (o := ?_) ?_ (fun K hK => ?_) AllReadyL.none_
            rotate_left
            · (simp only [List.getElem?_toArray, List.getElem?_cons_succ, List.getElem?_cons_zero]; rfl)
            go_simp
            refine hK.out _ _ ?_ (fun hHeld => ?_)
            · (((try dsimp only); (repeat' apply And.intro) <;> (first | (simp only [World.cell?_drew, *]; done) | (simp (disch := (first | omega | (simp; omega))) only [cell_far, cell_old, World.cell?_drew, *]; done))))
            clear hK K
            try simp only [Act.put, List.setIfInBounds_toArray, List.set_cons_zero, List.set_cons_succ]
            refine takeL (i := 10) (oi := ?_) (v := ?_) ?_ (by kernel_rfl) (by kernel_rfl) (by kernel_rfl) (by kernel_rfl) ?_ (Or.inl ⟨?_, ?_⟩) (by assumption) ?_
            rotate_left 2
            · (simp only [List.getElem?_toArray, List.getElem?_cons_succ, List.getElem?_cons_zero]; rfl)
            · exact fun _ _ _ h => h
            · rfl
            · (intro w hSw; (try dsimp only at hSw); go_simp; (try with_reducible rfl))
            try simp only [Act.put, List.setIfInBounds_toArray, List.set_cons_zero, List.set_cons_succ]
            refine doneL (by kernel_rfl) ?_ _
            go_wp2_with fail
            go_meet
            case rel =>
              have BJ : Below w12.heap.size w12 w15 := ((bw13.trans (bw14.mono (by omega))).trans (bw15.mono (by omega)))
              refine ⟨rfl, _, rfl, NewVar.make (Ints.setc3 Ihw15.out (by first | (left; omega) | (right; omega) | (left; simp; done) | (left; simp; omega) | (right; simp; omega)) _ _ _) ?_ ?_ ?_ ?_ ?_⟩
              · go_grown
              · with_reducible exact Box.set3 (u0 := .int .i64 0) (u1 := .int .i64 0) (u2 := .slice none 0 0) (by rw [kw15, kw14]; simp [go_sem]; done) (by rw [kw15, kw14]; simp [go_sem]; done) (by rw [kw15, kw14]; simp [go_sem]; done)
              all_goals first | omega | (simp; done) | (simp; omega)
          exact AllReadyL.none_
        refine AllReadyL.cons (o := ?_) ?_ (fun K hK => ?_) ?_
        rotate_left
        · (simp only [List.getElem?_toArray, List.getElem?_cons_succ, List.getElem?_cons_zero]; rfl)
        · go_simp
          refine hK.out _ _ ?_ (fun hHeld => ?_)
          · (((try dsimp only); (repeat' apply And.intro) <;> (first | (simp only [World.cell?_drew, *]; done) | (simp (disch := (first | omega | (simp; omega))) only [cell_far, cell_old, World.cell?_drew, *]; done))))
          clear hK K
          try simp only [Act.put, List.setIfInBounds_toArray, List.set_cons_zero, List.set_cons_succ]
          refine readyL (rs := [1]) (by kernel_rfl) (by simp) ?_
          refine AllReadyL.cons (o := ?_) ?_ (fun K hK => ?_) AllReadyL.none_
          rotate_left
          · (simp only [List.getElem?_toArray, List.getElem?_cons_succ, List.getElem?_cons_zero]; rfl)
          go_simp
          go_at_call 16
          ((with_reducible refine (toImage_any _ _ _ _ _ zs0 _ (arg0.out.below (by go_grown)) L0.out hsm0).mono ?_))
          rintro e w13 ⟨Aw13, cw13, rfl, Ow13, hbw13⟩
          have bw13 : Below w12.heap.size w12 w13 := later (by go_grown) hbw13
          have Bw13 : Below w.heap.size w w13 := Bw12.trans (bw13.mono bsw12)
          have sw13 := hbw13.size
          (try simp at sw13)
          have tw13 := bw13.size
          have bsw13 := Bw13.size
          have Xa0w13 := Lib.hid (Xa0w12.out.step bw13)
          clear Xa0w12 qa0w12_0 qa0w12_1 qa0w12_2 qa0w12_3
          have Xa1w13 := Lib.hid (Xa1w12.out.step bw13)
          clear Xa1w12 qa1w12_0 qa1w12_1 qa1w12_2 qa1w12_3 qa1w12_4
          have ⟨qa0w13_0, qa0w13_1, qa0w13_2, qa0w13_3⟩ := Xa0w13.out.open3
          have ⟨qa1w13_0, qa1w13_1, qa1w13_2, qa1w13_3, qa1w13_4⟩ := Xa1w13.out.open4
          have Ixw13 := Lib.hid (Ixw12.out.step bw13)
          clear Ixw12
          have Itw13 : Hid (Ints w13 (w12.heap.size) w13.heap.size _ _) := Own.mono Ow13 (by (try simp); (try omega)) (Nat.le_refl _) (Nat.le_refl _)
          clear Ow13
          have ⟨kw13, fw13, yw13⟩ := keep3 hbw13 (w12.heap.size) (by first | omega | (simp; done) | (simp; omega))
          refine hK.out _ _ ?_ (fun hHeld => ?_)
          · (((try dsimp only); (repeat' apply And.intro) <;> (first | (simp only [World.cell?_drew, *]; done) | (simp (disch := (first | omega | (simp; omega))) only [cell_far, cell_old, World.cell?_drew, *]; done))))
          clear hK K
          try simp only [Act.put, List.setIfInBounds_toArray, List.set_cons_zero, List.set_cons_succ]
          refine readyL (rs := [3]) (by kernel_rfl) (by simp) ?_
          refine AllReadyL.cons (o := ?_) ?_ (fun K hK => ?_) AllReadyL.none_
          rotate_left
          · (simp only [List.getElem?_toArray, List.getElem?_cons_succ, List.getElem?_cons_zero]; rfl)
          go_simp
          go_at_call 32
          ((with_reducible refine (toRect_any rx1 ry1 rw1 rh1 _).mono ?_))
          rintro e w14 ⟨rfl, hbw14⟩
          have bw14 : Below w13.heap.size w13 w14 := later (by go_grown) hbw14
          have Bw14 : Below w.heap.size w w14 := Bw13.trans (bw14.mono bsw13)
          have sw14 := hbw14.size
          (try simp at sw14)
          have tw14 := bw14.size
          have bsw14 := Bw14.size
          have Xa0w14 := Lib.hid (Xa0w13.out.step bw14)
          clear Xa0w13 qa0w13_0 qa0w13_1 qa0w13_2 qa0w13_3
          have Xa1w14 := Lib.hid (Xa1w13.out.step bw14)
          clear Xa1w13 qa1w13_0 qa1w13_1 qa1w13_2 qa1w13_3 qa1w13_4
          have ⟨qa0w14_0, qa0w14_1, qa0w14_2, qa0w14_3⟩ := Xa0w14.out.open3
          have ⟨qa1w14_0, qa1w14_1, qa1w14_2, qa1w14_3, qa1w14_4⟩ := Xa1w14.out.open4
          have Ixw14 := Lib.hid (Ixw13.out.step bw14)
          clear Ixw13
          have Itw14 := Lib.hid (Itw13.out.step bw14)
          clear Itw13
          have ⟨kw14, fw14, yw14⟩ := keep3 hbw14 (w12.heap.size) (by first | omega | (simp; done) | (simp; omega))
          refine hK.out _ _ ?_ (fun hHeld => ?_)
          · (((try dsimp only); (repeat' apply And.intro) <;> (first | (simp only [World.cell?_drew, *]; done) | (simp (disch := (first | omega | (simp; omega))) only [cell_far, cell_old, World.cell?_drew, *]; done))))
          clear hK K
          try simp only [Act.put, List.setIfInBounds_toArray, List.set_cons_zero, List.set_cons_succ]
          refine readyL (rs := [4]) (by kernel_rfl) (by simp) ?_
          refine AllReadyL.cons (o := ?_) ?_ (fun K hK => ?_) AllReadyL.none_
          rotate_left
          · (simp only [List.getElem?_toArray, List.getElem?_cons_succ, List.getElem?_cons_zero]; rfl)
          go_simp
          go_at_call 33
          ((with_reducible refine (implCrop _ _ _ _ _ (w12.heap.size) (w13.heap.size) zs0 _ _ _ _ _ (Itw14.out.step (by go_grown))).mono ?_))
          rw [← HOK.out]
          rintro e w15 ⟨Aw15, cw15, rfl, Ow15, hbw15⟩
          have bw15 : Below w14.heap.size w14 w15 := later (by go_grown) hbw15
          have Bw15 : Below w.heap.size w w15 := Bw14.trans (bw15.mono bsw14)
          have sw15 := hbw15.size
          (try simp at sw15)
          have tw15 := bw15.size
          have bsw15 := Bw15.size
          have Xa0w15 := Lib.hid (Xa0w14.out.step bw15)
          clear Xa0w14 qa0w14_0 qa0w14_1 qa0w14_2 qa0w14_3
          have Xa1w15 := Lib.hid (Xa1w14.out.step bw15)
          clear Xa1w14 qa1w14_0 qa1w14_1 qa1w14_2 qa1w14_3 qa1w14_4
          have ⟨qa0w15_0, qa0w15_1, qa0w15_2, qa0w15_3⟩ := Xa0w15.out.open3
          have ⟨qa1w15_0, qa1w15_1, qa1w15_2, qa1w15_3, qa1w15_4⟩ := Xa1w15.out.open4
          have Ixw15 := Lib.hid (Ixw14.out.step bw15)
          clear Ixw14
          have Itw15 := Lib.hid (Itw14.out.step bw15)
          clear Itw14
          have Ihw15 := Lib.hid Ow15
          clear Ow15
          have ⟨kw15, fw15, yw15⟩ := keep3 hbw15 (w12.heap.size) (by first | omega | (simp; done) | (simp; omega))
          refine hK.out _ _ ?_ (fun hHeld => ?_)
          · (((try dsimp only); (repeat' apply And.intro) <;> (first | (simp only [World.cell?_drew, *]; done) | (simp (disch := (first | omega | (simp; omega))) only [cell_far, cell_old, World.cell?_drew, *]; done))))
          clear hK K
          try simp only [Act.put, List.setIfInBounds_toArray, List.set_cons_zero, List.set_cons_succ]
          refine takeL (i := 5) (oi := ?_) (v := ?_) ?_ (by kernel_rfl) (by kernel_rfl) (by kernel_rfl) (by kernel_rfl) ?_ (Or.inl ⟨?_, ?_⟩) (by assumption) ?_
          rotate_left 2
          · (simp only [List.getElem?_toArray, List.getElem?_cons_succ, List.getElem?_cons_zero]; rfl)
          · exact fun _ _ _ h => h
          · rfl
          · (intro w hSw; (try dsimp only at hSw); go_simp; (try with_reducible rfl))
          try simp only [Act.put, List.setIfInBounds_toArray, List.set_cons_zero, List.set_cons_succ]
          refine takeL (i := 6) (oi := ?_) (v := ?_) ?_ (by kernel_rfl) (by kernel_rfl) (by kernel_rfl) (by kernel_rfl) ?_ (Or.inl ⟨?_, ?_⟩) (by assumption) ?_
          rotate_left 2
          · (simp only [List.getElem?_toArray, List.getElem?_cons_succ, List.getElem?_cons_zero]; rfl)
          · exact fun _ _ _ h => h
          · rfl
          · (intro w hSw; (try dsimp only at hSw); go_simp; (try with_reducible rfl))
          try simp only [Act.put, List.setIfInBounds_toArray, List.set_cons_zero, List.set_cons_succ]
          refine takeL (i := 7) (oi := ?_) (v := ?_) ?_ (by kernel_rfl) (by kernel_rfl) (by kernel_rfl) (by kernel_rfl) ?_ (Or.inl ⟨?_, ?_⟩) (by assumption) ?_
          rotate_left 2
          · (simp only [List.getElem?_toArray, List.getElem?_cons_succ, List.getElem?_cons_zero]; rfl)
          · exact fun _ _ _ h => h
          · rfl
          · (intro w hSw; (try dsimp only at hSw); go_simp; (try with_reducible rfl))
          try simp only [Act.put, List.setIfInBounds_toArray, List.set_cons_zero, List.set_cons_succ]
          refine readyL (rs := [9]) (by kernel_rfl) (by simp) ?_
          refine AllReadyL.cons (o := ?_) ?_ (fun K hK => ?_) AllReadyL.none_
          rotate_left
          · (simp only [List.getElem?_toArray, List.getElem?_cons_succ, List.getElem?_cons_zero]; rfl)
          go_simp
          refine hK.out _ _ ?_ (fun hHeld => ?_)
          · (((try dsimp only); (repeat' apply And.intro) <;> (first | (simp only [World.cell?_drew, *]; done) | (simp (disch := (first | omega | (simp; omega))) only [cell_far, cell_old, World.cell?_drew, *]; done))))
          clear hK K
          try simp only [Act.put, List.setIfInBounds_toArray, List.set_cons_zero, List.set_cons_succ]
          refine takeL (i := 10) (oi := ?_) (v := ?_) ?_ (by kernel_rfl) (by kernel_rfl) (by kernel_rfl) (by kernel_rfl) ?_ (Or.inl ⟨?_, ?_⟩) (by assumption) ?_
          rotate_left 2
          · (simp only [List.getElem?_toArray, List.getElem?_cons_succ, List.getElem?_cons_zero]; rfl)
          · exact fun _ _ _ h => h
          · rfl
          · (intro w hSw; (try dsimp only at hSw); go_simp; (try with_reducible rfl))
          try simp only [Act.put, List.setIfInBounds_toArray, List.set_cons_zero, List.set_cons_succ]
          refine doneL (by kernel_rfl) ?_ _
          go_wp2_with fail
          go_meet
          case rel =>
            have BJ : Below w12.heap.size w12 w15 := ((bw13.trans (bw14.mono (by omega))).trans (bw15.mono (by omega)))
            refine ⟨rfl, _, rfl, NewVar.make (Ints.setc3 Ihw15.out (by first | (left; omega) | (right; omega) | (left; simp; done) | (left; simp; omega) | (right; simp; omega)) _ _ _) ?_ ?_ ?_ ?_ ?_⟩
            · go_grown
            · with_reducible exact Box.set3 (u0 := .int .i64 0) (u1 := .int .i64 0) (u2 := .slice none 0 0) (by rw [kw15, kw14, kw13]; simp [go_sem]; done) (by rw [kw15, kw14, kw13]; simp [go_sem]; done) (by rw [kw15, kw14, kw13]; simp [go_sem]; done)
            all_goals first | omega | (simp; done) | (simp; omega)
        exact AllReadyL.none_
      case rest =>
        obtain ⟨rfl, bkv13, rfl, lov13, hiv13, cv13, Av13, p1v13, p2v13, p3v13, p4v13, p5v13, XXv13, IIv13, bv13⟩ := hcut
        obtain ⟨v13, rfl⟩ : ∃ v13 : World, v13 = wc := ⟨_, rfl⟩
        have Bv13 : Below w.heap.size w v13 := Bw12.trans (bv13.mono bsw12)
        have tv13 := bv13.size
        have bsv13 := Bv13.size
        have Xa0v13 := Lib.hid (Xa0w12.out.step bv13)
        clear Xa0w12 qa0w12_0 qa0w12_1 qa0w12_2 qa0w12_3
        have Xa1v13 := Lib.hid (Xa1w12.out.step bv13)
        clear Xa1w12 qa1w12_0 qa1w12_1 qa1w12_2 qa1w12_3 qa1w12_4
        have Xwv13 := Lib.hid (Xww12.out.step bv13)
        clear Xww12 qww12_0 qww12_1 qww12_2 qww12_3
        have Xxv13 := Lib.hid (Xxw12.out.step bv13)
        clear Xxw12 qxw12_0 qxw12_1 qxw12_2 qxw12_3
        have Xgv13 := Lib.hid (Xgw12.out.step bv13)
        clear Xgw12 qgw12_0 qgw12_1 qgw12_2 qgw12_3
        have Xhv13 := XXv13
        clear XXv13
        have ⟨qa0v13_0, qa0v13_1, qa0v13_2, qa0v13_3⟩ := Xa0v13.out.open3
        have ⟨qa1v13_0, qa1v13_1, qa1v13_2, qa1v13_3, qa1v13_4⟩ := Xa1v13.out.open4
        have ⟨qwv13_0, qwv13_1, qwv13_2, qwv13_3⟩ := Xwv13.out.open3
        have ⟨qxv13_0, qxv13_1, qxv13_2, qxv13_3⟩ := Xxv13.out.open3
        have ⟨qgv13_0, qgv13_1, qgv13_2, qgv13_3⟩ := Xgv13.out.open3
        have ⟨qhv13_0, qhv13_1, qhv13_2, qhv13_3⟩ := Xhv13.out.open3
        have Iwv13 := Lib.hid (Iww12.out.step bv13)
        clear Iww12
        have Ixv13 := Lib.hid (Ixw12.out.step bv13)
        clear Ixw12
        have Igv13 := Lib.hid (Igw12.out.step bv13)
        clear Igw12
        have Itv13 := Lib.hid (Itw12.out.step bv13)
        clear Itw12
        have Ihv13 := IIv13
        clear IIv13
        go_wp2_with fail
        refine (eqImage_same _ _ _ _ _ _ _ _ (lov13) (hiv13) (lov2) (hiv2) (Pl.crop ⟨ix0, iy0, zs0⟩ ⟨rx1, ry1, rw1, rh1⟩).d _ (Ihv13.out.step (by go_grown)) (Iwv13.out.step (by go_grown))).mono ?_
        rintro e w14 ⟨rfl, hbw14⟩
        have bw14 : Below v13.heap.size v13 w14 := later (by go_grown) hbw14
        have Bw14 : Below w.heap.size w w14 := Bv13.trans (bw14.mono bsv13)
        have sw14 := hbw14.size
        (try simp at sw14)
        have tw14 := bw14.size
        have bsw14 := Bw14.size
        have Xa0w14 := Lib.hid (Xa0v13.out.step bw14)
        clear Xa0v13 qa0v13_0 qa0v13_1 qa0v13_2 qa0v13_3
        have Xa1w14 := Lib.hid (Xa1v13.out.step bw14)
        clear Xa1v13 qa1v13_0 qa1v13_1 qa1v13_2 qa1v13_3 qa1v13_4
        have Xww14 := Lib.hid (Xwv13.out.step bw14)
        clear Xwv13 qwv13_0 qwv13_1 qwv13_2 qwv13_3
        have Xxw14 := Lib.hid (Xxv13.out.step bw14)
        clear Xxv13 qxv13_0 qxv13_1 qxv13_2 qxv13_3
        have Xgw14 := Lib.hid (Xgv13.out.step bw14)
        clear Xgv13 qgv13_0 qgv13_1 qgv13_2 qgv13_3
        have Xhw14 := Lib.hid (Xhv13.out.step bw14)
        clear Xhv13 qhv13_0 qhv13_1 qhv13_2 qhv13_3
        have ⟨qa0w14_0, qa0w14_1, qa0w14_2, qa0w14_3⟩ := Xa0w14.out.open3
        have ⟨qa1w14_0, qa1w14_1, qa1w14_2, qa1w14_3, qa1w14_4⟩ := Xa1w14.out.open4
        have ⟨qww14_0, qww14_1, qww14_2, qww14_3⟩ := Xww14.out.open3
        have ⟨qxw14_0, qxw14_1, qxw14_2, qxw14_3⟩ := Xxw14.out.open3
        have ⟨qgw14_0, qgw14_1, qgw14_2, qgw14_3⟩ := Xgw14.out.open3
        have ⟨qhw14_0, qhw14_1, qhw14_2, qhw14_3⟩ := Xhw14.out.open3
        have Iww14 := Lib.hid (Iwv13.out.step bw14)
        clear Iwv13
        have Ixw14 := Lib.hid (Ixv13.out.step bw14)
        clear Ixv13
        have Igw14 := Lib.hid (Igv13.out.step bw14)
        clear Igv13
        have Itw14 := Lib.hid (Itv13.out.step bw14)
        clear Itv13
        have Ihw14 := Lib.hid (Ihv13.out.step bw14)
        clear Ihv13
        go_wp2_with fail
        refine (heldImage_same _ _ _ _ _ (lov5) (hiv5) _ _ (Igw14.out.step (by go_grown)) (by omega) (by omega)).mono ?_
        rintro e w15 ⟨rfl, hbw15⟩
        have bw15 : Below w14.heap.size w14 w15 := later (by go_grown) hbw15
        have Bw15 : Below w.heap.size w w15 := Bw14.trans (bw15.mono bsw14)
        have sw15 := hbw15.size
        (try simp at sw15)
        have tw15 := bw15.size
        have bsw15 := Bw15.size
        have Xa0w15 := Lib.hid (Xa0w14.out.step bw15)
        clear Xa0w14 qa0w14_0 qa0w14_1 qa0w14_2 qa0w14_3
        have Xa1w15 := Lib.hid (Xa1w14.out.step bw15)
        clear Xa1w14 qa1w14_0 qa1w14_1 qa1w14_2 qa1w14_3 qa1w14_4
        have Xww15 := Lib.hid (Xww14.out.step bw15)
        clear Xww14 qww14_0 qww14_1 qww14_2 qww14_3
        have Xxw15 := Lib.hid (Xxw14.out.step bw15)
        clear Xxw14 qxw14_0 qxw14_1 qxw14_2 qxw14_3
        have Xgw15 := Lib.hid (Xgw14.out.step bw15)
        clear Xgw14 qgw14_0 qgw14_1 qgw14_2 qgw14_3
        have Xhw15 := Lib.hid (Xhw14.out.step bw15)
        clear Xhw14 qhw14_0 qhw14_1 qhw14_2 qhw14_3
        have ⟨qa0w15_0, qa0w15_1, qa0w15_2, qa0w15_3⟩ := Xa0w15.out.open3
        have ⟨qa1w15_0, qa1w15_1, qa1w15_2, qa1w15_3, qa1w15_4⟩ := Xa1w15.out.open4
        have ⟨qww15_0, qww15_1, qww15_2, qww15_3⟩ := Xww15.out.open3
        have ⟨qxw15_0, qxw15_1, qxw15_2, qxw15_3⟩ := Xxw15.out.open3
        have ⟨qgw15_0, qgw15_1, qgw15_2, qgw15_3⟩ := Xgw15.out.open3
        have ⟨qhw15_0, qhw15_1, qhw15_2, qhw15_3⟩ := Xhw15.out.open3
        have Iww15 := Lib.hid (Iww14.out.step bw15)
        clear Iww14
        have Ixw15 := Lib.hid (Ixw14.out.step bw15)
        clear Ixw14
        have Igw15 := Lib.hid (Igw14.out.step bw15)
        clear Igw14
        have Itw15 := Lib.hid (Itw14.out.step bw15)
        clear Itw14
        have Ihw15 := Lib.hid (Ihw14.out.step bw15)
        clear Ihw14
        go_wp2_with fail
        go_ret
        exact ⟨rfl, by go_grown⟩
end Go.Proofs.Ytbgemonpkncldaa
