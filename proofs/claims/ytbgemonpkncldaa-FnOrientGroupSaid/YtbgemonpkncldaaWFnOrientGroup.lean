/- The law FnOrientGroup: it returns true. -/
import Derived.Test.YtbgemonpkncldaaWalks4
import Derived.Test.YtbgemonpkncldaaDrI
import Derived.Test.YtbgemonpkncldaaOri5
import Derived.Test.YtbgemonpkncldaaOriLaw
import Derived.Test.YtbgemonpkncldaaSame
import Derived.Test.YtbgemonpkncldaaAt2
import Derived.Deep.RegionHeld3
import Derived.Deep.DeepCutAuto
namespace Go.Proofs.Ytbgemonpkncldaa
open Go.RowKit
set_option linter.unusedVariables false
set_option linter.unusedSimpArgs false
theorem isRow_len1 {w : World} {a : Option Addr} {len cap : Nat} {zs : List Int} (hr : IsRow .u8 w a len cap zs) : len ≤ 9223372036854775807 := by
  rcases hr with ⟨rfl, rfl, rfl, rfl⟩ | ⟨x, rfl, hl, hm, _⟩
  · omega
  · unfold maxLen at hm; omega
set_option maxHeartbeats 8000000 in
set_option maxRecDepth 100000 in
theorem walkFnOrientGroup (a : Option Addr) (len cap : Nat) (z : List Int) (w : World) (hr : IsRow .u8 w a len cap z) : Calls Try.prog 13 #[.slice a len cap] w fun e w' => e = .returned (.bool true) ∧ Below w.heap.size w w' := by
  have hl := isRow_len1 hr
  by_cases hbig : 1048576 < len
  · go_enter Try.func13, Try.ntmps13
    go_wp2_with fail
    refine (big_any _ _ _ _ hl).mono ?_
    rintro e w' ⟨rfl, rfl⟩
    go_wp2_with fail
    go_ret
    exact ⟨rfl, Below.refl _ _⟩
  have HR := Lib.hid hr
  clear hr
  have Bw : Below w.heap.size w w := Below.refl _ _
  have bsw := Bw.size
  go_enter Try.func13, Try.ntmps13
  go_wp2_with fail
  refine (big_any _ _ _ _ hl).mono ?_
  rintro e w' ⟨rfl, rfl⟩
  go_wp2_with fail
  refine (drawImage a len cap z _ HR.out (by omega)).mono ?_
  rintro e w1 ⟨X, Y, ci, Ai, zs, rfl, ok, X8, Y8, Ow1, hbw1⟩
  have bw1 : Below w.heap.size w w1 := later (by go_grown) hbw1
  have Bw1 : Below w.heap.size w w1 := Bw.trans (bw1.mono bsw)
  have sw1 := hbw1.size
  (try simp at sw1)
  have tw1 := bw1.size
  have bsw1 := Bw1.size
  have OK := Lib.hid ok
  obtain ⟨X1, Y1, hzl⟩ := Pl.ok_dims ok
  have HZL := Lib.hid hzl
  clear ok hzl
  have Iiw1 : Hid (Ints w1 (w.heap.size) w1.heap.size _ _) := Lib.hid Ow1
  clear Ow1
  obtain ⟨n00, n01⟩ := atV_bd HR.out 0
  obtain ⟨n10, n11⟩ := atV_bd HR.out 1
  obtain ⟨n20, n21⟩ := atV_bd HR.out 2
  obtain ⟨n30, n31⟩ := atV_bd HR.out 3
  have ⟨a00, a01⟩ : 0 ≤ Pl.atV len z 0 % 8 ∧ Pl.atV len z 0 % 8 < 8 := ⟨Int.emod_nonneg _ (by omega), Int.emod_lt_of_pos _ (by omega)⟩
  have ⟨b00, b01⟩ : 0 ≤ Pl.atV len z 1 % 8 ∧ Pl.atV len z 1 % 8 < 8 := ⟨Int.emod_nonneg _ (by omega), Int.emod_lt_of_pos _ (by omega)⟩
  go_wp2_with fail
  refine (at_val _ _ _ z 0 _ (isRow_keep HR.out fun x hx hc => by have := isRow_lt HR.out x hx hc; exact ((by go_grown) : Below w.heap.size w _).block _ this) (by omega) (by omega)).mono ?_
  rintro e w' ⟨rfl, rfl⟩
  go_wp2_with fail
  refine (at_val _ _ _ z 1 _ (isRow_keep HR.out fun x hx hc => by have := isRow_lt HR.out x hx hc; exact ((by go_grown) : Below w.heap.size w _).block _ this) (by omega) (by omega)).mono ?_
  rintro e w' ⟨rfl, rfl⟩
  go_upto_region 6 with fail
  have bv2 : Below w1.heap.size w1 (w1.alloc (.cells #[.int .i64 X, .int .i64 Y, .slice Ai zs.length ci] 27)) := by go_grown
  have sv2 : w1.heap.size + 1 ≤ (w1.alloc (.cells #[.int .i64 X, .int .i64 Y, .slice Ai zs.length ci] 27)).heap.size := by simp
  have rv2 : (w1.alloc (.cells #[.int .i64 X, .int .i64 Y, .slice Ai zs.length ci] 27)).heap.size ≤ w1.heap.size + 1 := by simp
  have Ziv2 : Box (w1.alloc (.cells #[.int .i64 X, .int .i64 Y, .slice Ai zs.length ci] 27)) (w1.heap.size) [.int .i64 X, .int .i64 Y, .slice Ai zs.length ci] := Box.of3 (Below.refl _ _) _ (by first | (simp; done) | (simp; omega)) (by simp [go_sem]) (by simp [go_sem]) (by simp [go_sem])
  generalize (w1.alloc (.cells #[.int .i64 X, .int .i64 Y, .slice Ai zs.length ci] 27)) = v2 at *
  have Bv2 : Below w.heap.size w v2 := Bw1.trans (bv2.mono bsw1)
  have tv2 := bv2.size
  have bsv2 := Bv2.size
  have Xiv2 := Lib.hid Ziv2
  clear Ziv2
  have ⟨qiv2_0, qiv2_1, qiv2_2, qiv2_3⟩ := Xiv2.out.open3
  have Iiv2 := Lib.hid (Iiw1.out.step bv2)
  clear Iiw1
  obtain ⟨oa, hoa⟩ : ∃ oa, oa = Pl.atV len z 0 % 8 := ⟨_, rfl⟩
  obtain ⟨ob, hob⟩ : ∃ ob, ob = Pl.atV len z 1 % 8 := ⟨_, rfl⟩
  rw [← hoa, ← hob]
  rw [← hoa] at a00 a01
  rw [← hob] at b00 b01
  clear hoa hob n00 n01 n10 n11
  obtain ⟨W1, H1, W2, H2, d1, d2, e1, e2, e3, e4, e5, e6, e7⟩ := Pl.orient_all (a := oa) (b := ob) OK.out ⟨a00, by omega⟩ ⟨b00, by omega⟩
  have E1 := Lib.hid e1
  have E2 := Lib.hid e2
  have E3 := Lib.hid e3
  have E4 := Lib.hid e4
  have E5 := Lib.hid e5
  have E6 := Lib.hid e6
  have E7 := Lib.hid e7
  clear e1 e2 e3 e4 e5 e6 e7
  go_wp2_with fail
  refine (implOriented _ _ _ _ _ (w.heap.size) (w1.heap.size) zs oa _ (Iiv2.out.step (by go_grown))).mono ?_
  rw [E1.out]
  rintro e w3 ⟨Aw3, cw3, rfl, Ow3, hbw3⟩
  dsimp only at Ow3 ⊢
  have bw3 : Below v2.heap.size v2 w3 := later (by go_grown) hbw3
  have Bw3 : Below w.heap.size w w3 := Bv2.trans (bw3.mono bsv2)
  have sw3 := hbw3.size
  (try simp at sw3)
  have tw3 := bw3.size
  have bsw3 := Bw3.size
  have Xiw3 := Lib.hid (Xiv2.out.step bw3)
  clear Xiv2 qiv2_0 qiv2_1 qiv2_2 qiv2_3
  have ⟨qiw3_0, qiw3_1, qiw3_2, qiw3_3⟩ := Xiw3.out.open3
  have Iiw3 := Lib.hid (Iiv2.out.step bw3)
  clear Iiv2
  have Imw3 : Hid (Ints w3 (v2.heap.size) w3.heap.size (.slice Aw3 d1.length cw3) d1) := Own.mono Ow3 (by (try simp); (try omega)) (Nat.le_refl _) (Nat.le_refl _)
  clear Ow3
  go_wp2_with fail
  refine (implOriented _ _ _ _ _ (v2.heap.size) (w3.heap.size) d1 ob _ (Imw3.out.step (by go_grown))).mono ?_
  rw [E2.out]
  rintro e w4 ⟨Aw4, cw4, rfl, Ow4, hbw4⟩
  dsimp only at Ow4 ⊢
  have bw4 : Below w3.heap.size w3 w4 := later (by go_grown) hbw4
  have Bw4 : Below w.heap.size w w4 := Bw3.trans (bw4.mono bsw3)
  have sw4 := hbw4.size
  (try simp at sw4)
  have tw4 := bw4.size
  have bsw4 := Bw4.size
  have Xiw4 := Lib.hid (Xiw3.out.step bw4)
  clear Xiw3 qiw3_0 qiw3_1 qiw3_2 qiw3_3
  have ⟨qiw4_0, qiw4_1, qiw4_2, qiw4_3⟩ := Xiw4.out.open3
  have Iiw4 := Lib.hid (Iiw3.out.step bw4)
  clear Iiw3
  have Imw4 := Lib.hid (Imw3.out.step bw4)
  clear Imw3
  have Ixw4 : Hid (Ints w4 (w3.heap.size) w4.heap.size (.slice Aw4 d2.length cw4) d2) := Own.mono Ow4 (by (try simp); (try omega)) (Nat.le_refl _) (Nat.le_refl _)
  clear Ow4
  go_upto_region 7 with fail
  have bv5 : Below w4.heap.size w4 (w4.alloc (.cells #[.int .i64 W2, .int .i64 H2, .slice Aw4 d2.length cw4] 27)) := by go_grown
  have sv5 : w4.heap.size + 1 ≤ (w4.alloc (.cells #[.int .i64 W2, .int .i64 H2, .slice Aw4 d2.length cw4] 27)).heap.size := by simp
  have rv5 : (w4.alloc (.cells #[.int .i64 W2, .int .i64 H2, .slice Aw4 d2.length cw4] 27)).heap.size ≤ w4.heap.size + 1 := by simp
  have Zxv5 : Box (w4.alloc (.cells #[.int .i64 W2, .int .i64 H2, .slice Aw4 d2.length cw4] 27)) (w4.heap.size) [.int .i64 W2, .int .i64 H2, .slice Aw4 d2.length cw4] := Box.of3 (Below.refl _ _) _ (by first | (simp; done) | (simp; omega)) (by simp [go_sem]) (by simp [go_sem]) (by simp [go_sem])
  generalize (w4.alloc (.cells #[.int .i64 W2, .int .i64 H2, .slice Aw4 d2.length cw4] 27)) = v5 at *
  have Bv5 : Below w.heap.size w v5 := Bw4.trans (bv5.mono bsw4)
  have tv5 := bv5.size
  have bsv5 := Bv5.size
  have Xiv5 := Lib.hid (Xiw4.out.step bv5)
  clear Xiw4 qiw4_0 qiw4_1 qiw4_2 qiw4_3
  have Xxv5 := Lib.hid Zxv5
  clear Zxv5
  have ⟨qiv5_0, qiv5_1, qiv5_2, qiv5_3⟩ := Xiv5.out.open3
  have ⟨qxv5_0, qxv5_1, qxv5_2, qxv5_3⟩ := Xxv5.out.open3
  have Iiv5 := Lib.hid (Iiw4.out.step bv5)
  clear Iiw4
  have Imv5 := Lib.hid (Imw4.out.step bv5)
  clear Imw4
  have Ixv5 := Lib.hid (Ixw4.out.step bv5)
  clear Ixw4
  go_cut [7] (fun s7 wx => ∃ bk : Nat, s7 = .pointer (some ⟨bk, 0, none⟩) ∧ NewVar v5 wx bk (fun (AA : Option Addr) (cc : Nat) => ([.int .i64 W2, .int .i64 H2, .slice AA d2.length cc] : List Value)) d2.length d2)
  case first =>
    clear Xxv5 qxv5_0 qxv5_1 qxv5_2 qxv5_3
    clear Imv5
    clear Ixv5
    refine regionL (S := (fun w' => w'.cell? ⟨w1.heap.size, 0, none⟩ = some (.int .i64 X) ∧ w'.cell? ⟨w1.heap.size, 1, none⟩ = some (.int .i64 Y) ∧ w'.cell? ⟨w1.heap.size, 2, none⟩ = some (.slice Ai zs.length ci))) (L := 7) (by kernel_rfl) ?_ (fun hHeld => ?_)
    · (((try dsimp only); (repeat' apply And.intro) <;> (first | (simp only [World.cell?_drew, *]; done) | (simp (disch := (first | omega | (simp; omega))) only [cell_far, cell_old, World.cell?_drew, *]; done))))
    refine takeL (i := 0) (oi := ?_) (v := ?_) ?_ (by kernel_rfl) (by kernel_rfl) (by kernel_rfl) (by kernel_rfl) ?_ (Or.inl ⟨?_, ?_⟩) (by assumption) ?_
    rotate_left 2
    · (simp only [List.getElem?_toArray, List.getElem?_cons_succ, List.getElem?_cons_zero]; rfl)
    · exact fun _ _ _ h => h
    · rfl
    · (intro w hSw; (try dsimp only at hSw); go_simp; (try with_reducible rfl))
    try simp only [Act.put, List.setIfInBounds_toArray, List.set_cons_zero, List.set_cons_succ]
    refine takeL (i := 1) (oi := ?_) (v := ?_) ?_ (by kernel_rfl) (by kernel_rfl) (by kernel_rfl) (by kernel_rfl) ?_ (Or.inl ⟨?_, ?_⟩) (by assumption) ?_
    rotate_left 2
    · (simp only [List.getElem?_toArray, List.getElem?_cons_succ, List.getElem?_cons_zero]; rfl)
    · exact fun _ _ _ h => h
    · rfl
    · (intro w hSw; (try dsimp only at hSw); go_simp; (try with_reducible rfl))
    try simp only [Act.put, List.setIfInBounds_toArray, List.set_cons_zero, List.set_cons_succ]
    refine takeL (i := 2) (oi := ?_) (v := ?_) ?_ (by kernel_rfl) (by kernel_rfl) (by kernel_rfl) (by kernel_rfl) ?_ (Or.inl ⟨?_, ?_⟩) (by assumption) ?_
    rotate_left 2
    · (simp only [List.getElem?_toArray, List.getElem?_cons_succ, List.getElem?_cons_zero]; rfl)
    · exact fun _ _ _ h => h
    · rfl
    · (intro w hSw; (try dsimp only at hSw); go_simp; (try with_reducible rfl))
    try simp only [Act.put, List.setIfInBounds_toArray, List.set_cons_zero, List.set_cons_succ]
    refine readyL (rs := [3, 5]) (by kernel_rfl) (by simp) ?_
    refine AllReadyL.cons (o := ?_) ?_ (fun K hK => ?_) ?_
    rotate_left
    · (simp only [List.getElem?_toArray, List.getElem?_cons_succ, List.getElem?_cons_zero]; rfl)
    · go_simp
      go_at_call 43
      ((with_reducible refine (implThen oa ob _).mono ?_))
      rintro e w' ⟨rfl, rfl⟩
      refine hK.out _ _ ?_ (fun hHeld => ?_)
      · (((try dsimp only); (repeat' apply And.intro) <;> (first | (simp only [World.cell?_drew, *]; done) | (simp (disch := (first | omega | (simp; omega))) only [cell_far, cell_old, World.cell?_drew, *]; done))))
      clear hK K
      try simp only [Act.put, List.setIfInBounds_toArray, List.set_cons_zero, List.set_cons_succ]
      refine readyL (rs := [4, 5]) (by kernel_rfl) (by simp) ?_
      refine AllReadyL.cons (o := ?_) ?_ (fun K hK => ?_) ?_
      rotate_left
      · (simp only [List.getElem?_toArray, List.getElem?_cons_succ, List.getElem?_cons_zero]; rfl)
      · go_simp
        go_at_call 40
        ((with_reducible refine (implOriented _ _ _ _ _ (w.heap.size) (w1.heap.size) zs (Pl.thenOrient oa ob) _ (Iiv5.out.step (by go_grown))).mono ?_))
        rw [E3.out]
        rintro e w6 ⟨Aw6, cw6, rfl, Ow6, hbw6⟩
        dsimp only at Ow6 ⊢
        have bw6 : Below v5.heap.size v5 w6 := later (by go_grown) hbw6
        have Bw6 : Below w.heap.size w w6 := Bv5.trans (bw6.mono bsv5)
        have sw6 := hbw6.size
        (try simp at sw6)
        have tw6 := bw6.size
        have bsw6 := Bw6.size
        have Xiw6 := Lib.hid (Xiv5.out.step bw6)
        clear Xiv5 qiv5_0 qiv5_1 qiv5_2 qiv5_3
        have ⟨qiw6_0, qiw6_1, qiw6_2, qiw6_3⟩ := Xiw6.out.open3
        have Iiw6 := Lib.hid (Iiv5.out.step bw6)
        clear Iiv5
        have Iyw6 := Lib.hid Ow6
        clear Ow6
        refine hK.out _ _ ?_ (fun hHeld => ?_)
        · (((try dsimp only); (repeat' apply And.intro) <;> (first | (simp only [World.cell?_drew, *]; done) | (simp (disch := (first | omega | (simp; omega))) only [cell_far, cell_old, World.cell?_drew, *]; done))))
        clear hK K
        try simp only [Act.put, List.setIfInBounds_toArray, List.set_cons_zero, List.set_cons_succ]
        refine readyL (rs := [5]) (by kernel_rfl) (by simp) ?_
        refine AllReadyL.cons (o := ?_) ?_ (fun K hK => ?_) AllReadyL.none_
        rotate_left
        · (simp only [List.getElem?_toArray, List.getElem?_cons_succ, List.getElem?_cons_zero]; rfl)
        go_simp
        refine hK.out _ _ ?_ (fun hHeld => ?_)
        · (((try dsimp only); (repeat' apply And.intro) <;> (first | (simp only [World.cell?_drew, *]; done) | (simp (disch := (first | omega | (simp; omega))) only [cell_far, cell_old, World.cell?_drew, *]; done))))
        clear hK K
        try simp only [Act.put, List.setIfInBounds_toArray, List.set_cons_zero, List.set_cons_succ]
        refine readyL (rs := [6]) (by kernel_rfl) (by simp) ?_
        refine AllReadyL.cons (o := ?_) ?_ (fun K hK => ?_) AllReadyL.none_
        rotate_left
        · (simp only [List.getElem?_toArray, List.getElem?_cons_succ, List.getElem?_cons_zero]; rfl)
        go_simp
        refine hK.out _ _ ?_ (fun hHeld => ?_)
        · (((try dsimp only); (repeat' apply And.intro) <;> (first | (simp only [World.cell?_drew, *]; done) | (simp (disch := (first | omega | (simp; omega))) only [cell_far, cell_old, World.cell?_drew, *]; done))))
        clear hK K
        try simp only [Act.put, List.setIfInBounds_toArray, List.set_cons_zero, List.set_cons_succ]
        refine doneL (by kernel_rfl) ?_ _
        go_wp2_with fail
        go_meet
        case rel =>
          have BJ : Below v5.heap.size v5 w6 := bw6
          with_reducible refine ⟨_, rfl, NewVar.make (Ints.alloc Iyw6.out _) ?_ ?_ ?_ ?_ ?_⟩
          · go_grown
          · exact Box.of3 (Below.refl _ _) _ (by first | omega | (simp; done) | (simp; omega)) (by simp [go_sem]; done) (by simp [go_sem]; done) (by simp [go_sem]; done)
          all_goals first | omega | (simp; done) | (simp; omega)
      refine AllReadyL.cons (o := ?_) ?_ (fun K hK => ?_) ?_
      rotate_left
      · (simp only [List.getElem?_toArray, List.getElem?_cons_succ, List.getElem?_cons_zero]; rfl)
      · go_simp
        refine hK.out _ _ ?_ (fun hHeld => ?_)
        · (((try dsimp only); (repeat' apply And.intro) <;> (first | (simp only [World.cell?_drew, *]; done) | (simp (disch := (first | omega | (simp; omega))) only [cell_far, cell_old, World.cell?_drew, *]; done))))
        clear hK K
        try simp only [Act.put, List.setIfInBounds_toArray, List.set_cons_zero, List.set_cons_succ]
        refine readyL (rs := [4]) (by kernel_rfl) (by simp) ?_
        refine AllReadyL.cons (o := ?_) ?_ (fun K hK => ?_) AllReadyL.none_
        rotate_left
        · (simp only [List.getElem?_toArray, List.getElem?_cons_succ, List.getElem?_cons_zero]; rfl)
        go_simp
        go_at_call 40
        ((with_reducible refine (implOriented _ _ _ _ _ (w.heap.size) (w1.heap.size) zs (Pl.thenOrient oa ob) _ (Iiv5.out.step (by go_grown))).mono ?_))
        rw [E3.out]
        rintro e w6 ⟨Aw6, cw6, rfl, Ow6, hbw6⟩
        dsimp only at Ow6 ⊢
        have bw6 : Below v5.heap.size v5 w6 := later (by go_grown) hbw6
        have Bw6 : Below w.heap.size w w6 := Bv5.trans (bw6.mono bsv5)
        have sw6 := hbw6.size
        (try simp at sw6)
        have tw6 := bw6.size
        have bsw6 := Bw6.size
        have Xiw6 := Lib.hid (Xiv5.out.step bw6)
        clear Xiv5 qiv5_0 qiv5_1 qiv5_2 qiv5_3
        have ⟨qiw6_0, qiw6_1, qiw6_2, qiw6_3⟩ := Xiw6.out.open3
        have Iiw6 := Lib.hid (Iiv5.out.step bw6)
        clear Iiv5
        have Iyw6 := Lib.hid Ow6
        clear Ow6
        have ⟨kw6, fw6, yw6⟩ := keep3 hbw6 (v5.heap.size) (by first | omega | (simp; done) | (simp; omega))
        refine hK.out _ _ ?_ (fun hHeld => ?_)
        · (((try dsimp only); (repeat' apply And.intro) <;> (first | (simp only [World.cell?_drew, *]; done) | (simp (disch := (first | omega | (simp; omega))) only [cell_far, cell_old, World.cell?_drew, *]; done))))
        clear hK K
        try simp only [Act.put, List.setIfInBounds_toArray, List.set_cons_zero, List.set_cons_succ]
        refine readyL (rs := [6]) (by kernel_rfl) (by simp) ?_
        refine AllReadyL.cons (o := ?_) ?_ (fun K hK => ?_) AllReadyL.none_
        rotate_left
        · (simp only [List.getElem?_toArray, List.getElem?_cons_succ, List.getElem?_cons_zero]; rfl)
        go_simp
        refine hK.out _ _ ?_ (fun hHeld => ?_)
        · (((try dsimp only); (repeat' apply And.intro) <;> (first | (simp only [World.cell?_drew, *]; done) | (simp (disch := (first | omega | (simp; omega))) only [cell_far, cell_old, World.cell?_drew, *]; done))))
        clear hK K
        try simp only [Act.put, List.setIfInBounds_toArray, List.set_cons_zero, List.set_cons_succ]
        refine doneL (by kernel_rfl) ?_ _
        go_wp2_with fail
        go_meet
        case rel =>
          have BJ : Below v5.heap.size v5 w6 := bw6
          refine ⟨_, rfl, NewVar.make (Ints.setc3 Iyw6.out (by first | (left; omega) | (right; omega) | (left; simp; done) | (left; simp; omega) | (right; simp; omega)) _ _ _) ?_ ?_ ?_ ?_ ?_⟩
          · go_grown
          · with_reducible exact Box.set3 (u0 := .int .i64 0) (u1 := .int .i64 0) (u2 := .slice none 0 0) (by rw [kw6]; simp [go_sem]; done) (by rw [kw6]; simp [go_sem]; done) (by rw [kw6]; simp [go_sem]; done)
          all_goals first | omega | (simp; done) | (simp; omega)
      exact AllReadyL.none_
    refine AllReadyL.cons (o := ?_) ?_ (fun K hK => ?_) ?_
    rotate_left
    · (simp only [List.getElem?_toArray, List.getElem?_cons_succ, List.getElem?_cons_zero]; rfl)
    · go_simp
      refine hK.out _ _ ?_ (fun hHeld => ?_)
      · (((try dsimp only); (repeat' apply And.intro) <;> (first | (simp only [World.cell?_drew, *]; done) | (simp (disch := (first | omega | (simp; omega))) only [cell_far, cell_old, World.cell?_drew, *]; done))))
      clear hK K
      try simp only [Act.put, List.setIfInBounds_toArray, List.set_cons_zero, List.set_cons_succ]
      refine readyL (rs := [3]) (by kernel_rfl) (by simp) ?_
      refine AllReadyL.cons (o := ?_) ?_ (fun K hK => ?_) AllReadyL.none_
      rotate_left
      · (simp only [List.getElem?_toArray, List.getElem?_cons_succ, List.getElem?_cons_zero]; rfl)
      go_simp
      go_at_call 43
      ((with_reducible refine (implThen oa ob _).mono ?_))
      rintro e w' ⟨rfl, rfl⟩
      refine hK.out _ _ ?_ (fun hHeld => ?_)
      · (((try dsimp only); (repeat' apply And.intro) <;> (first | (simp only [World.cell?_drew, *]; done) | (simp (disch := (first | omega | (simp; omega))) only [cell_far, cell_old, World.cell?_drew, *]; done))))
      clear hK K
      try simp only [Act.put, List.setIfInBounds_toArray, List.set_cons_zero, List.set_cons_succ]
      refine readyL (rs := [4]) (by kernel_rfl) (by simp) ?_
      refine AllReadyL.cons (o := ?_) ?_ (fun K hK => ?_) AllReadyL.none_
      rotate_left
      · (simp only [List.getElem?_toArray, List.getElem?_cons_succ, List.getElem?_cons_zero]; rfl)
      go_simp
      go_at_call 40
      ((with_reducible refine (implOriented _ _ _ _ _ (w.heap.size) (w1.heap.size) zs (Pl.thenOrient oa ob) _ (Iiv5.out.step (by go_grown))).mono ?_))
      rw [E3.out]
      rintro e w6 ⟨Aw6, cw6, rfl, Ow6, hbw6⟩
      dsimp only at Ow6 ⊢
      have bw6 : Below v5.heap.size v5 w6 := later (by go_grown) hbw6
      have Bw6 : Below w.heap.size w w6 := Bv5.trans (bw6.mono bsv5)
      have sw6 := hbw6.size
      (try simp at sw6)
      have tw6 := bw6.size
      have bsw6 := Bw6.size
      have Xiw6 := Lib.hid (Xiv5.out.step bw6)
      clear Xiv5 qiv5_0 qiv5_1 qiv5_2 qiv5_3
      have ⟨qiw6_0, qiw6_1, qiw6_2, qiw6_3⟩ := Xiw6.out.open3
      have Iiw6 := Lib.hid (Iiv5.out.step bw6)
      clear Iiv5
      have Iyw6 := Lib.hid Ow6
      clear Ow6
      have ⟨kw6, fw6, yw6⟩ := keep3 hbw6 (v5.heap.size) (by first | omega | (simp; done) | (simp; omega))
      refine hK.out _ _ ?_ (fun hHeld => ?_)
      · (((try dsimp only); (repeat' apply And.intro) <;> (first | (simp only [World.cell?_drew, *]; done) | (simp (disch := (first | omega | (simp; omega))) only [cell_far, cell_old, World.cell?_drew, *]; done))))
      clear hK K
      try simp only [Act.put, List.setIfInBounds_toArray, List.set_cons_zero, List.set_cons_succ]
      refine readyL (rs := [6]) (by kernel_rfl) (by simp) ?_
      refine AllReadyL.cons (o := ?_) ?_ (fun K hK => ?_) AllReadyL.none_
      rotate_left
      · (simp only [List.getElem?_toArray, List.getElem?_cons_succ, List.getElem?_cons_zero]; rfl)
      go_simp
      refine hK.out _ _ ?_ (fun hHeld => ?_)
      · (((try dsimp only); (repeat' apply And.intro) <;> (first | (simp only [World.cell?_drew, *]; done) | (simp (disch := (first | omega | (simp; omega))) only [cell_far, cell_old, World.cell?_drew, *]; done))))
      clear hK K
      try simp only [Act.put, List.setIfInBounds_toArray, List.set_cons_zero, List.set_cons_succ]
      refine doneL (by kernel_rfl) ?_ _
      go_wp2_with fail
      go_meet
      case rel =>
        have BJ : Below v5.heap.size v5 w6 := bw6
        refine ⟨_, rfl, NewVar.make (Ints.setc3 Iyw6.out (by first | (left; omega) | (right; omega) | (left; simp; done) | (left; simp; omega) | (right; simp; omega)) _ _ _) ?_ ?_ ?_ ?_ ?_⟩
        · go_grown
        · with_reducible exact Box.set3 (u0 := .int .i64 0) (u1 := .int .i64 0) (u2 := .slice none 0 0) (by rw [kw6]; simp [go_sem]; done) (by rw [kw6]; simp [go_sem]; done) (by rw [kw6]; simp [go_sem]; done)
        all_goals first | omega | (simp; done) | (simp; omega)
    exact AllReadyL.none_
  case rest =>
    obtain ⟨bkv6, rfl, lov6, hiv6, cv6, Av6, p1v6, p2v6, p3v6, p4v6, p5v6, XXv6, IIv6, bv6⟩ := hcut
    obtain ⟨v6, rfl⟩ : ∃ v6 : World, v6 = wc := ⟨_, rfl⟩
    have Bv6 : Below w.heap.size w v6 := Bv5.trans (bv6.mono bsv5)
    have tv6 := bv6.size
    have bsv6 := Bv6.size
    have Xiv6 := Lib.hid (Xiv5.out.step bv6)
    clear Xiv5 qiv5_0 qiv5_1 qiv5_2 qiv5_3
    have Xxv6 := Lib.hid (Xxv5.out.step bv6)
    clear Xxv5 qxv5_0 qxv5_1 qxv5_2 qxv5_3
    have Xyv6 := XXv6
    clear XXv6
    have ⟨qiv6_0, qiv6_1, qiv6_2, qiv6_3⟩ := Xiv6.out.open3
    have ⟨qxv6_0, qxv6_1, qxv6_2, qxv6_3⟩ := Xxv6.out.open3
    have ⟨qyv6_0, qyv6_1, qyv6_2, qyv6_3⟩ := Xyv6.out.open3
    have Iiv6 := Lib.hid (Iiv5.out.step bv6)
    clear Iiv5
    have Imv6 := Lib.hid (Imv5.out.step bv6)
    clear Imv5
    have Ixv6 := Lib.hid (Ixv5.out.step bv6)
    clear Ixv5
    have Iyv6 := IIv6
    clear IIv6
    go_wp2_with fail
    refine (implOriented _ _ _ _ _ (w.heap.size) (w1.heap.size) zs oa _ (Iiv6.out.step (by go_grown))).mono ?_
    rw [E1.out]
    rintro e w7 ⟨Aw7, cw7, rfl, Ow7, hbw7⟩
    dsimp only at Ow7 ⊢
    have bw7 : Below v6.heap.size v6 w7 := later (by go_grown) hbw7
    have Bw7 : Below w.heap.size w w7 := Bv6.trans (bw7.mono bsv6)
    have sw7 := hbw7.size
    (try simp at sw7)
    have tw7 := bw7.size
    have bsw7 := Bw7.size
    have Xiw7 := Lib.hid (Xiv6.out.step bw7)
    clear Xiv6 qiv6_0 qiv6_1 qiv6_2 qiv6_3
    have Xxw7 := Lib.hid (Xxv6.out.step bw7)
    clear Xxv6 qxv6_0 qxv6_1 qxv6_2 qxv6_3
    have Xyw7 := Lib.hid (Xyv6.out.step bw7)
    clear Xyv6 qyv6_0 qyv6_1 qyv6_2 qyv6_3
    have ⟨qiw7_0, qiw7_1, qiw7_2, qiw7_3⟩ := Xiw7.out.open3
    have ⟨qxw7_0, qxw7_1, qxw7_2, qxw7_3⟩ := Xxw7.out.open3
    have ⟨qyw7_0, qyw7_1, qyw7_2, qyw7_3⟩ := Xyw7.out.open3
    have Iiw7 := Lib.hid (Iiv6.out.step bw7)
    clear Iiv6
    have Imw7 := Lib.hid (Imv6.out.step bw7)
    clear Imv6
    have Ixw7 := Lib.hid (Ixv6.out.step bw7)
    clear Ixv6
    have Iyw7 := Lib.hid (Iyv6.out.step bw7)
    clear Iyv6
    have Im2w7 : Hid (Ints w7 (v6.heap.size) w7.heap.size (.slice Aw7 d1.length cw7) d1) := Own.mono Ow7 (by (try simp); (try omega)) (Nat.le_refl _) (Nat.le_refl _)
    clear Ow7
    go_wp2_with (go_at_call 44; ((with_reducible refine (implUndo _ _).mono ?_)); rintro e w' ⟨rfl, rfl⟩)
    refine (implOriented _ _ _ _ _ (v6.heap.size) (w7.heap.size) d1 (Pl.undoOrient oa) _ (Im2w7.out.step (by go_grown))).mono ?_
    rw [E4.out]
    rintro e w8 ⟨Aw8, cw8, rfl, Ow8, hbw8⟩
    dsimp only at Ow8 ⊢
    have bw8 : Below w7.heap.size w7 w8 := later (by go_grown) hbw8
    have Bw8 : Below w.heap.size w w8 := Bw7.trans (bw8.mono bsw7)
    have sw8 := hbw8.size
    (try simp at sw8)
    have tw8 := bw8.size
    have bsw8 := Bw8.size
    have Xiw8 := Lib.hid (Xiw7.out.step bw8)
    clear Xiw7 qiw7_0 qiw7_1 qiw7_2 qiw7_3
    have Xxw8 := Lib.hid (Xxw7.out.step bw8)
    clear Xxw7 qxw7_0 qxw7_1 qxw7_2 qxw7_3
    have Xyw8 := Lib.hid (Xyw7.out.step bw8)
    clear Xyw7 qyw7_0 qyw7_1 qyw7_2 qyw7_3
    have ⟨qiw8_0, qiw8_1, qiw8_2, qiw8_3⟩ := Xiw8.out.open3
    have ⟨qxw8_0, qxw8_1, qxw8_2, qxw8_3⟩ := Xxw8.out.open3
    have ⟨qyw8_0, qyw8_1, qyw8_2, qyw8_3⟩ := Xyw8.out.open3
    have Iiw8 := Lib.hid (Iiw7.out.step bw8)
    clear Iiw7
    have Imw8 := Lib.hid (Imw7.out.step bw8)
    clear Imw7
    have Ixw8 := Lib.hid (Ixw7.out.step bw8)
    clear Ixw7
    have Iyw8 := Lib.hid (Iyw7.out.step bw8)
    clear Iyw7
    have Im2w8 := Lib.hid (Im2w7.out.step bw8)
    clear Im2w7
    have Izw8 : Hid (Ints w8 (w7.heap.size) w8.heap.size (.slice Aw8 zs.length cw8) zs) := Own.mono Ow8 (by (try simp); (try omega)) (Nat.le_refl _) (Nat.le_refl _)
    clear Ow8
    go_wp2_with (go_at_call 45; ((with_reducible refine (implOrientSize X Y oa _).mono ?_)); rw [E5.out, E6.out]; rintro e w' ⟨rfl, rfl⟩)
    have bv9 : Below w8.heap.size w8 (w8.alloc (.cells #[.int .i64 X, .int .i64 Y, .slice Aw8 zs.length cw8] 27)) := by go_grown
    have sv9 : w8.heap.size + 1 ≤ (w8.alloc (.cells #[.int .i64 X, .int .i64 Y, .slice Aw8 zs.length cw8] 27)).heap.size := by simp
    have rv9 : (w8.alloc (.cells #[.int .i64 X, .int .i64 Y, .slice Aw8 zs.length cw8] 27)).heap.size ≤ w8.heap.size + 1 := by simp
    have Zzv9 : Box (w8.alloc (.cells #[.int .i64 X, .int .i64 Y, .slice Aw8 zs.length cw8] 27)) (w8.heap.size) [.int .i64 X, .int .i64 Y, .slice Aw8 zs.length cw8] := Box.of3 (Below.refl _ _) _ (by first | (simp; done) | (simp; omega)) (by simp [go_sem]) (by simp [go_sem]) (by simp [go_sem])
    generalize (w8.alloc (.cells #[.int .i64 X, .int .i64 Y, .slice Aw8 zs.length cw8] 27)) = v9 at *
    have Bv9 : Below w.heap.size w v9 := Bw8.trans (bv9.mono bsw8)
    have tv9 := bv9.size
    have bsv9 := Bv9.size
    have Xiv9 := Lib.hid (Xiw8.out.step bv9)
    clear Xiw8 qiw8_0 qiw8_1 qiw8_2 qiw8_3
    have Xxv9 := Lib.hid (Xxw8.out.step bv9)
    clear Xxw8 qxw8_0 qxw8_1 qxw8_2 qxw8_3
    have Xyv9 := Lib.hid (Xyw8.out.step bv9)
    clear Xyw8 qyw8_0 qyw8_1 qyw8_2 qyw8_3
    have Xzv9 := Lib.hid Zzv9
    clear Zzv9
    have ⟨qiv9_0, qiv9_1, qiv9_2, qiv9_3⟩ := Xiv9.out.open3
    have ⟨qxv9_0, qxv9_1, qxv9_2, qxv9_3⟩ := Xxv9.out.open3
    have ⟨qyv9_0, qyv9_1, qyv9_2, qyv9_3⟩ := Xyv9.out.open3
    have ⟨qzv9_0, qzv9_1, qzv9_2, qzv9_3⟩ := Xzv9.out.open3
    have Iiv9 := Lib.hid (Iiw8.out.step bv9)
    clear Iiw8
    have Imv9 := Lib.hid (Imw8.out.step bv9)
    clear Imw8
    have Ixv9 := Lib.hid (Ixw8.out.step bv9)
    clear Ixw8
    have Iyv9 := Lib.hid (Iyw8.out.step bv9)
    clear Iyw8
    have Im2v9 := Lib.hid (Im2w8.out.step bv9)
    clear Im2w8
    have Izv9 := Lib.hid (Izw8.out.step bv9)
    clear Izw8
    have hP2 : ((X : Nat) : Int) ≠ 0 := by omega
    have nP2 : ¬ (X : Int) = 0 := by omega
    have nN2 : ¬ X = 0 := by omega
    have q20 : 0 ≤ Pl.atV len z 2 % (X : Int) := Int.emod_nonneg _ (by omega)
    have q21 : Pl.atV len z 2 % (X : Int) < X := Int.emod_lt_of_pos _ (by omega)
    have r2 : (Pl.atV len z 2).tmod (X : Int) = Pl.atV len z 2 % (X : Int) := Int.tmod_eq_emod_of_nonneg (by omega)
    have u2 : IntKind.i64.wrap (Pl.atV len z 2 % (X : Int)) = Pl.atV len z 2 % (X : Int) := IntWalk.i64_in _ ⟨by omega, by omega⟩
    have hP3 : ((Y : Nat) : Int) ≠ 0 := by omega
    have nP3 : ¬ (Y : Int) = 0 := by omega
    have nN3 : ¬ Y = 0 := by omega
    have q30 : 0 ≤ Pl.atV len z 3 % (Y : Int) := Int.emod_nonneg _ (by omega)
    have q31 : Pl.atV len z 3 % (Y : Int) < Y := Int.emod_lt_of_pos _ (by omega)
    have r3 : (Pl.atV len z 3).tmod (Y : Int) = Pl.atV len z 3 % (Y : Int) := Int.tmod_eq_emod_of_nonneg (by omega)
    have u3 : IntKind.i64.wrap (Pl.atV len z 3 % (Y : Int)) = Pl.atV len z 3 % (Y : Int) := IntWalk.i64_in _ ⟨by omega, by omega⟩
    have wX : IntKind.i64.wrap (X : Int) = (X : Int) := IntWalk.i64_in _ ⟨by omega, by omega⟩
    have wY : IntKind.i64.wrap (Y : Int) = (Y : Int) := IntWalk.i64_in _ ⟨by omega, by omega⟩
    refine regionL (S := (fun w' => w'.cell? ⟨w1.heap.size, 0, none⟩ = some (.int .i64 X) ∧ w'.cell? ⟨w1.heap.size, 1, none⟩ = some (.int .i64 Y) ∧ w'.cell? ⟨w1.heap.size, 2, none⟩ = some (.slice Ai zs.length ci))) (L := 21) (by kernel_rfl) ?_ (fun hHeld => ?_)
    · (((try dsimp only); (repeat' apply And.intro) <;> (first | (simp only [World.cell?_drew, *]; done) | (simp (disch := (first | omega | (simp; omega))) only [cell_far, cell_old, World.cell?_drew, *]; done))))
    refine takeL (i := 0) (oi := ?_) (v := ?_) ?_ (by kernel_rfl) (by kernel_rfl) (by kernel_rfl) (by kernel_rfl) ?_ (Or.inl ⟨?_, ?_⟩) (by assumption) ?_
    rotate_left 2
    · (simp only [List.getElem?_toArray, List.getElem?_cons_succ, List.getElem?_cons_zero]; rfl)
    · exact fun _ _ _ h => h
    · rfl
    · (intro w hSw; (try dsimp only at hSw); go_simp; (try with_reducible rfl))
    try simp only [Act.put, List.setIfInBounds_toArray, List.set_cons_zero, List.set_cons_succ]
    refine takeL (i := 1) (oi := ?_) (v := ?_) ?_ (by kernel_rfl) (by kernel_rfl) (by kernel_rfl) (by kernel_rfl) ?_ (Or.inl ⟨?_, ?_⟩) (by assumption) ?_
    rotate_left 2
    · (simp only [List.getElem?_toArray, List.getElem?_cons_succ, List.getElem?_cons_zero]; rfl)
    · exact fun _ _ _ h => h
    · rfl
    · (intro w hSw; (try dsimp only at hSw); go_simp; (try with_reducible rfl))
    try simp only [Act.put, List.setIfInBounds_toArray, List.set_cons_zero, List.set_cons_succ]
    refine takeL (i := 2) (oi := ?_) (v := ?_) ?_ (by kernel_rfl) (by kernel_rfl) (by kernel_rfl) (by kernel_rfl) ?_ (Or.inl ⟨?_, ?_⟩) (by assumption) ?_
    rotate_left 2
    · (simp only [List.getElem?_toArray, List.getElem?_cons_succ, List.getElem?_cons_zero]; rfl)
    · exact fun _ _ _ h => h
    · rfl
    · (intro w hSw; (try dsimp only at hSw); go_simp; (try with_reducible rfl))
    try simp only [Act.put, List.setIfInBounds_toArray, List.set_cons_zero, List.set_cons_succ]
    refine takeL (i := 3) (oi := ?_) (v := ?_) ?_ (by kernel_rfl) (by kernel_rfl) (by kernel_rfl) (by kernel_rfl) ?_ (Or.inl ⟨?_, ?_⟩) (by assumption) ?_
    rotate_left 2
    · (simp only [List.getElem?_toArray, List.getElem?_cons_succ, List.getElem?_cons_zero]; rfl)
    · exact fun _ _ _ h => h
    · rfl
    · (intro w hSw; (try dsimp only at hSw); go_simp; (try with_reducible rfl))
    try simp only [Act.put, List.setIfInBounds_toArray, List.set_cons_zero, List.set_cons_succ]
    refine takeL (i := 4) (oi := ?_) (v := ?_) ?_ (by kernel_rfl) (by kernel_rfl) (by kernel_rfl) (by kernel_rfl) ?_ (Or.inl ⟨?_, ?_⟩) (by assumption) ?_
    rotate_left 2
    · (simp only [List.getElem?_toArray, List.getElem?_cons_succ, List.getElem?_cons_zero]; rfl)
    · exact fun _ _ _ h => h
    · rfl
    · (intro w hSw; (try dsimp only at hSw); go_simp; (try with_reducible rfl))
    try simp only [Act.put, List.setIfInBounds_toArray, List.set_cons_zero, List.set_cons_succ]
    refine takeL (i := 5) (oi := ?_) (v := ?_) ?_ (by kernel_rfl) (by kernel_rfl) (by kernel_rfl) (by kernel_rfl) ?_ (Or.inl ⟨?_, ?_⟩) (by assumption) ?_
    rotate_left 2
    · (simp only [List.getElem?_toArray, List.getElem?_cons_succ, List.getElem?_cons_zero]; rfl)
    · exact fun _ _ _ h => h
    · rfl
    · (intro w hSw; (try dsimp only at hSw); go_simp; (try with_reducible rfl))
    try simp only [Act.put, List.setIfInBounds_toArray, List.set_cons_zero, List.set_cons_succ]
    refine takeL (i := 7) (oi := ?_) (v := ?_) ?_ (by kernel_rfl) (by kernel_rfl) (by kernel_rfl) (by kernel_rfl) ?_ (Or.inl ⟨?_, ?_⟩) (by assumption) ?_
    rotate_left 2
    · (simp only [List.getElem?_toArray, List.getElem?_cons_succ, List.getElem?_cons_zero]; rfl)
    · exact fun _ _ _ h => h
    · rfl
    · (intro w hSw; (try dsimp only at hSw); go_simp; (try with_reducible rfl))
    try simp only [Act.put, List.setIfInBounds_toArray, List.set_cons_zero, List.set_cons_succ]
    refine takeL (i := 8) (oi := ?_) (v := ?_) ?_ (by kernel_rfl) (by kernel_rfl) (by kernel_rfl) (by kernel_rfl) ?_ (Or.inl ⟨?_, ?_⟩) (by assumption) ?_
    rotate_left 2
    · (simp only [List.getElem?_toArray, List.getElem?_cons_succ, List.getElem?_cons_zero]; rfl)
    · exact fun _ _ _ h => h
    · rfl
    · (intro w hSw; (try dsimp only at hSw); go_simp; (try with_reducible rfl))
    try simp only [Act.put, List.setIfInBounds_toArray, List.set_cons_zero, List.set_cons_succ]
    refine takeL (i := 10) (oi := ?_) (v := ?_) ?_ (by kernel_rfl) (by kernel_rfl) (by kernel_rfl) (by kernel_rfl) ?_ (Or.inl ⟨?_, ?_⟩) (by assumption) ?_
    rotate_left 2
    · (simp only [List.getElem?_toArray, List.getElem?_cons_succ, List.getElem?_cons_zero]; rfl)
    · exact fun _ _ _ h => h
    · rfl
    · (intro w hSw; (try dsimp only at hSw); go_simp; (try with_reducible rfl))
    try simp only [Act.put, List.setIfInBounds_toArray, List.set_cons_zero, List.set_cons_succ]
    refine takeL (i := 12) (oi := ?_) (v := ?_) ?_ (by kernel_rfl) (by kernel_rfl) (by kernel_rfl) (by kernel_rfl) ?_ (Or.inl ⟨?_, ?_⟩) (by assumption) ?_
    rotate_left 2
    · (simp only [List.getElem?_toArray, List.getElem?_cons_succ, List.getElem?_cons_zero]; rfl)
    · exact fun _ _ _ h => h
    · rfl
    · (intro w hSw; (try dsimp only at hSw); go_simp; (try with_reducible rfl))
    try simp only [Act.put, List.setIfInBounds_toArray, List.set_cons_zero, List.set_cons_succ]
    refine takeL (i := 13) (oi := ?_) (v := ?_) ?_ (by kernel_rfl) (by kernel_rfl) (by kernel_rfl) (by kernel_rfl) ?_ (Or.inl ⟨?_, ?_⟩) (by assumption) ?_
    rotate_left 2
    · (simp only [List.getElem?_toArray, List.getElem?_cons_succ, List.getElem?_cons_zero]; rfl)
    · exact fun _ _ _ h => h
    · rfl
    · (intro w hSw; (try dsimp only at hSw); go_simp; (try with_reducible rfl))
    try simp only [Act.put, List.setIfInBounds_toArray, List.set_cons_zero, List.set_cons_succ]
    refine readyL (rs := [6]) (by kernel_rfl) (by simp) ?_
    refine AllReadyL.cons (o := ?_) ?_ (fun K hK => ?_) AllReadyL.none_
    rotate_left
    · (simp only [List.getElem?_toArray, List.getElem?_cons_succ, List.getElem?_cons_zero]; rfl)
    go_simp
    go_at_call 36
    ((with_reducible refine (at_val _ _ _ z 2 _ (isRow_keep HR.out fun x hx hc => by have := isRow_lt HR.out x hx hc; first | exact (Bv9.drew).block _ this | exact Bv9.block _ this) (by omega) (by omega)).mono ?_))
    rintro e w' ⟨rfl, rfl⟩
    refine hK.out _ _ ?_ (fun hHeld => ?_)
    · (((try dsimp only); (repeat' apply And.intro) <;> (first | (simp only [World.cell?_drew, *]; done) | (simp (disch := (first | omega | (simp; omega))) only [cell_far, cell_old, World.cell?_drew, *]; done))))
    clear hK K
    try simp only [Act.put, List.setIfInBounds_toArray, List.set_cons_zero, List.set_cons_succ]
    refine takeL (i := 9) (oi := ?_) (v := ?_) ?_ (by kernel_rfl) (by kernel_rfl) (by kernel_rfl) (by kernel_rfl) ?_ (Or.inl ⟨?_, ?_⟩) (by assumption) ?_
    rotate_left 2
    · (simp only [List.getElem?_toArray, List.getElem?_cons_succ, List.getElem?_cons_zero]; rfl)
    · exact fun _ _ _ h => h
    · rfl
    · (intro w hSw; (try dsimp only at hSw); go_simp; (try with_reducible rfl))
    try simp only [Act.put, List.setIfInBounds_toArray, List.set_cons_zero, List.set_cons_succ]
    refine readyL (rs := [11]) (by kernel_rfl) (by simp) ?_
    refine AllReadyL.cons (o := ?_) ?_ (fun K hK => ?_) AllReadyL.none_
    rotate_left
    · (simp only [List.getElem?_toArray, List.getElem?_cons_succ, List.getElem?_cons_zero]; rfl)
    go_simp
    go_at_call 36
    ((with_reducible refine (at_val _ _ _ z 3 _ (isRow_keep HR.out fun x hx hc => by have := isRow_lt HR.out x hx hc; first | exact (Bv9.drew).block _ this | exact Bv9.block _ this) (by omega) (by omega)).mono ?_))
    rintro e w' ⟨rfl, rfl⟩
    refine hK.out _ _ ?_ (fun hHeld => ?_)
    · (((try dsimp only); (repeat' apply And.intro) <;> (first | (simp only [World.cell?_drew, *]; done) | (simp (disch := (first | omega | (simp; omega))) only [cell_far, cell_old, World.cell?_drew, *]; done))))
    clear hK K
    try simp only [Act.put, List.setIfInBounds_toArray, List.set_cons_zero, List.set_cons_succ]
    refine takeL (i := 14) (oi := ?_) (v := ?_) ?_ (by kernel_rfl) (by kernel_rfl) (by kernel_rfl) (by kernel_rfl) ?_ (Or.inl ⟨?_, ?_⟩) (by assumption) ?_
    rotate_left 2
    · (simp only [List.getElem?_toArray, List.getElem?_cons_succ, List.getElem?_cons_zero]; rfl)
    · exact fun _ _ _ h => h
    · rfl
    · (intro w hSw; (try dsimp only at hSw); go_simp; (try with_reducible rfl))
    try simp only [Act.put, List.setIfInBounds_toArray, List.set_cons_zero, List.set_cons_succ]
    refine readyL (rs := [15]) (by kernel_rfl) (by simp) ?_
    refine AllReadyL.cons (o := ?_) ?_ (fun K hK => ?_) AllReadyL.none_
    rotate_left
    · (simp only [List.getElem?_toArray, List.getElem?_cons_succ, List.getElem?_cons_zero]; rfl)
    go_simp
    go_at_call 46
    ((with_reducible refine (implOrientPoint X Y oa (Pl.atV len z 2 % (X : Int)) (Pl.atV len z 3 % (Y : Int)) _).mono ?_))
    rintro e w' ⟨rfl, rfl⟩
    refine hK.out _ _ ?_ (fun hHeld => ?_)
    · (((try dsimp only); (repeat' apply And.intro) <;> (first | (simp only [World.cell?_drew, *]; done) | (simp (disch := (first | omega | (simp; omega))) only [cell_far, cell_old, World.cell?_drew, *]; done))))
    clear hK K
    try simp only [Act.put, List.setIfInBounds_toArray, List.set_cons_zero, List.set_cons_succ]
    refine takeL (i := 16) (oi := ?_) (v := ?_) ?_ (by kernel_rfl) (by kernel_rfl) (by kernel_rfl) (by kernel_rfl) ?_ (Or.inl ⟨?_, ?_⟩) (by assumption) ?_
    rotate_left 2
    · (simp only [List.getElem?_toArray, List.getElem?_cons_succ, List.getElem?_cons_zero]; rfl)
    · exact fun _ _ _ h => h
    · rfl
    · (intro w hSw; (try dsimp only at hSw); go_simp; (try with_reducible rfl))
    try simp only [Act.put, List.setIfInBounds_toArray, List.set_cons_zero, List.set_cons_succ]
    refine takeL (i := 17) (oi := ?_) (v := ?_) ?_ (by kernel_rfl) (by kernel_rfl) (by kernel_rfl) (by kernel_rfl) ?_ (Or.inl ⟨?_, ?_⟩) (by assumption) ?_
    rotate_left 2
    · (simp only [List.getElem?_toArray, List.getElem?_cons_succ, List.getElem?_cons_zero]; rfl)
    · exact fun _ _ _ h => h
    · rfl
    · (intro w hSw; (try dsimp only at hSw); go_simp; (try with_reducible rfl))
    try simp only [Act.put, List.setIfInBounds_toArray, List.set_cons_zero, List.set_cons_succ]
    refine takeL (i := 18) (oi := ?_) (v := ?_) ?_ (by kernel_rfl) (by kernel_rfl) (by kernel_rfl) (by kernel_rfl) ?_ (Or.inl ⟨?_, ?_⟩) (by assumption) ?_
    rotate_left 2
    · (simp only [List.getElem?_toArray, List.getElem?_cons_succ, List.getElem?_cons_zero]; rfl)
    · exact fun _ _ _ h => h
    · rfl
    · (intro w hSw; (try dsimp only at hSw); go_simp; (try with_reducible rfl))
    try simp only [Act.put, List.setIfInBounds_toArray, List.set_cons_zero, List.set_cons_succ]
    refine takeL (i := 19) (oi := ?_) (v := ?_) ?_ (by kernel_rfl) (by kernel_rfl) (by kernel_rfl) (by kernel_rfl) ?_ (Or.inl ⟨?_, ?_⟩) (by assumption) ?_
    rotate_left 2
    · (simp only [List.getElem?_toArray, List.getElem?_cons_succ, List.getElem?_cons_zero]; rfl)
    · exact fun _ _ _ h => h
    · rfl
    · (intro w hSw; (try dsimp only at hSw); go_simp; (try with_reducible rfl))
    try simp only [Act.put, List.setIfInBounds_toArray, List.set_cons_zero, List.set_cons_succ]
    refine takeL (i := 20) (oi := ?_) (v := ?_) ?_ (by kernel_rfl) (by kernel_rfl) (by kernel_rfl) (by kernel_rfl) ?_ (Or.inl ⟨?_, ?_⟩) (by assumption) ?_
    rotate_left 2
    · (simp only [List.getElem?_toArray, List.getElem?_cons_succ, List.getElem?_cons_zero]; rfl)
    · exact fun _ _ _ h => h
    · rfl
    · (intro w hSw; (try dsimp only at hSw); go_simp; (try with_reducible rfl))
    try simp only [Act.put, List.setIfInBounds_toArray, List.set_cons_zero, List.set_cons_succ]
    refine doneL (by kernel_rfl) ?_ _
    go_wp2_with fail
    refine (implOriented _ _ _ _ _ (w.heap.size) (w1.heap.size) zs oa _ (Iiv9.out.step (by go_grown))).mono ?_
    rw [E1.out]
    rintro e w10 ⟨Aw10, cw10, rfl, Ow10, hbw10⟩
    dsimp only at Ow10 ⊢
    have bw10 : Below v9.heap.size v9 w10 := later (by go_grown) hbw10
    have Bw10 : Below w.heap.size w w10 := Bv9.trans (bw10.mono bsv9)
    have sw10 := hbw10.size
    (try simp at sw10)
    have tw10 := bw10.size
    have bsw10 := Bw10.size
    have Xiw10 := Lib.hid (Xiv9.out.step bw10)
    clear Xiv9 qiv9_0 qiv9_1 qiv9_2 qiv9_3
    have Xxw10 := Lib.hid (Xxv9.out.step bw10)
    clear Xxv9 qxv9_0 qxv9_1 qxv9_2 qxv9_3
    have Xyw10 := Lib.hid (Xyv9.out.step bw10)
    clear Xyv9 qyv9_0 qyv9_1 qyv9_2 qyv9_3
    have Xzw10 := Lib.hid (Xzv9.out.step bw10)
    clear Xzv9 qzv9_0 qzv9_1 qzv9_2 qzv9_3
    have ⟨qiw10_0, qiw10_1, qiw10_2, qiw10_3⟩ := Xiw10.out.open3
    have ⟨qxw10_0, qxw10_1, qxw10_2, qxw10_3⟩ := Xxw10.out.open3
    have ⟨qyw10_0, qyw10_1, qyw10_2, qyw10_3⟩ := Xyw10.out.open3
    have ⟨qzw10_0, qzw10_1, qzw10_2, qzw10_3⟩ := Xzw10.out.open3
    have Iiw10 := Lib.hid (Iiv9.out.step bw10)
    clear Iiv9
    have Imw10 := Lib.hid (Imv9.out.step bw10)
    clear Imv9
    have Ixw10 := Lib.hid (Ixv9.out.step bw10)
    clear Ixv9
    have Iyw10 := Lib.hid (Iyv9.out.step bw10)
    clear Iyv9
    have Im2w10 := Lib.hid (Im2v9.out.step bw10)
    clear Im2v9
    have Izw10 := Lib.hid (Izv9.out.step bw10)
    clear Izv9
    have Iow10 : Hid (Ints w10 (v9.heap.size) w10.heap.size (.slice Aw10 d1.length cw10) d1) := Own.mono Ow10 (by (try simp); (try omega)) (Nat.le_refl _) (Nat.le_refl _)
    clear Ow10
    go_upto_region 12 with fail
    have bv11 : Below w10.heap.size w10 (w10.alloc (.cells #[.int .i64 W1, .int .i64 H1, .slice Aw10 d1.length cw10] 27)) := by go_grown
    have sv11 : w10.heap.size + 1 ≤ (w10.alloc (.cells #[.int .i64 W1, .int .i64 H1, .slice Aw10 d1.length cw10] 27)).heap.size := by simp
    have rv11 : (w10.alloc (.cells #[.int .i64 W1, .int .i64 H1, .slice Aw10 d1.length cw10] 27)).heap.size ≤ w10.heap.size + 1 := by simp
    have Zov11 : Box (w10.alloc (.cells #[.int .i64 W1, .int .i64 H1, .slice Aw10 d1.length cw10] 27)) (w10.heap.size) [.int .i64 W1, .int .i64 H1, .slice Aw10 d1.length cw10] := Box.of3 (Below.refl _ _) _ (by first | (simp; done) | (simp; omega)) (by simp [go_sem]) (by simp [go_sem]) (by simp [go_sem])
    generalize (w10.alloc (.cells #[.int .i64 W1, .int .i64 H1, .slice Aw10 d1.length cw10] 27)) = v11 at *
    have Bv11 : Below w.heap.size w v11 := Bw10.trans (bv11.mono bsw10)
    have tv11 := bv11.size
    have bsv11 := Bv11.size
    have Xiv11 := Lib.hid (Xiw10.out.step bv11)
    clear Xiw10 qiw10_0 qiw10_1 qiw10_2 qiw10_3
    have Xxv11 := Lib.hid (Xxw10.out.step bv11)
    clear Xxw10 qxw10_0 qxw10_1 qxw10_2 qxw10_3
    have Xyv11 := Lib.hid (Xyw10.out.step bv11)
    clear Xyw10 qyw10_0 qyw10_1 qyw10_2 qyw10_3
    have Xzv11 := Lib.hid (Xzw10.out.step bv11)
    clear Xzw10 qzw10_0 qzw10_1 qzw10_2 qzw10_3
    have Xov11 := Lib.hid Zov11
    clear Zov11
    have ⟨qiv11_0, qiv11_1, qiv11_2, qiv11_3⟩ := Xiv11.out.open3
    have ⟨qxv11_0, qxv11_1, qxv11_2, qxv11_3⟩ := Xxv11.out.open3
    have ⟨qyv11_0, qyv11_1, qyv11_2, qyv11_3⟩ := Xyv11.out.open3
    have ⟨qzv11_0, qzv11_1, qzv11_2, qzv11_3⟩ := Xzv11.out.open3
    have ⟨qov11_0, qov11_1, qov11_2, qov11_3⟩ := Xov11.out.open3
    have Iiv11 := Lib.hid (Iiw10.out.step bv11)
    clear Iiw10
    have Imv11 := Lib.hid (Imw10.out.step bv11)
    clear Imw10
    have Ixv11 := Lib.hid (Ixw10.out.step bv11)
    clear Ixw10
    have Iyv11 := Lib.hid (Iyw10.out.step bv11)
    clear Iyw10
    have Im2v11 := Lib.hid (Im2w10.out.step bv11)
    clear Im2w10
    have Izv11 := Lib.hid (Izw10.out.step bv11)
    clear Izw10
    have Iov11 := Lib.hid (Iow10.out.step bv11)
    clear Iow10
    have E8 := Lib.hid (E7.out _ _ ⟨q20, q21⟩ ⟨q30, q31⟩)
    obtain ⟨px, hpx⟩ : ∃ px, px = Pl.oriX X Y oa (Pl.atV len z 2 % (X : Int)) (Pl.atV len z 3 % (Y : Int)) := ⟨_, rfl⟩
    obtain ⟨py, hpy⟩ : ∃ py, py = Pl.oriY X Y oa (Pl.atV len z 2 % (X : Int)) (Pl.atV len z 3 % (Y : Int)) := ⟨_, rfl⟩
    rw [← hpx, ← hpy]
    have E9 := E8.out
    rw [← hpx, ← hpy] at E9
    have HE9 := Lib.hid E9
    clear E9 E8 hpx hpy
    refine regionL (S := (fun w' => w'.cell? ⟨w1.heap.size, 0, none⟩ = some (.int .i64 X) ∧ w'.cell? ⟨w1.heap.size, 1, none⟩ = some (.int .i64 Y) ∧ w'.cell? ⟨w1.heap.size, 2, none⟩ = some (.slice Ai zs.length ci) ∧ w'.cell? ⟨w4.heap.size, 0, none⟩ = some (.int .i64 W2) ∧ w'.cell? ⟨w4.heap.size, 1, none⟩ = some (.int .i64 H2) ∧ w'.cell? ⟨w4.heap.size, 2, none⟩ = some (.slice Aw4 d2.length cw4) ∧ w'.cell? ⟨bkv6, 0, none⟩ = some (.int .i64 W2) ∧ w'.cell? ⟨bkv6, 1, none⟩ = some (.int .i64 H2) ∧ w'.cell? ⟨bkv6, 2, none⟩ = some (.slice Av6 d2.length cv6) ∧ w'.cell? ⟨w8.heap.size, 0, none⟩ = some (.int .i64 X) ∧ w'.cell? ⟨w8.heap.size, 1, none⟩ = some (.int .i64 Y) ∧ w'.cell? ⟨w8.heap.size, 2, none⟩ = some (.slice Aw8 zs.length cw8) ∧ w'.cell? ⟨w10.heap.size, 0, none⟩ = some (.int .i64 W1) ∧ w'.cell? ⟨w10.heap.size, 1, none⟩ = some (.int .i64 H1) ∧ w'.cell? ⟨w10.heap.size, 2, none⟩ = some (.slice Aw10 d1.length cw10))) (L := 40) (by kernel_rfl) ?_ (fun hHeld => ?_)
    · (((try dsimp only); (repeat' apply And.intro) <;> (first | (simp only [World.cell?_drew, *]; done) | (simp (disch := (first | omega | (simp; omega))) only [cell_far, cell_old, World.cell?_drew, *]; done))))
    refine takeL (i := 0) (oi := ?_) (v := ?_) ?_ (by kernel_rfl) (by kernel_rfl) (by kernel_rfl) (by kernel_rfl) ?_ (Or.inl ⟨?_, ?_⟩) (by assumption) ?_
    rotate_left 2
    · (simp only [List.getElem?_toArray, List.getElem?_cons_succ, List.getElem?_cons_zero]; rfl)
    · exact fun _ _ _ h => h
    · rfl
    · (intro w hSw; (try dsimp only at hSw); go_simp; (try with_reducible rfl))
    try simp only [Act.put, List.setIfInBounds_toArray, List.set_cons_zero, List.set_cons_succ]
    refine takeL (i := 1) (oi := ?_) (v := ?_) ?_ (by kernel_rfl) (by kernel_rfl) (by kernel_rfl) (by kernel_rfl) ?_ (Or.inl ⟨?_, ?_⟩) (by assumption) ?_
    rotate_left 2
    · (simp only [List.getElem?_toArray, List.getElem?_cons_succ, List.getElem?_cons_zero]; rfl)
    · exact fun _ _ _ h => h
    · rfl
    · (intro w hSw; (try dsimp only at hSw); go_simp; (try with_reducible rfl))
    try simp only [Act.put, List.setIfInBounds_toArray, List.set_cons_zero, List.set_cons_succ]
    refine readyL (rs := [2]) (by kernel_rfl) (by simp) ?_
    refine AllReadyL.cons (o := ?_) ?_ (fun K hK => ?_) AllReadyL.none_
    rotate_left
    · (simp only [List.getElem?_toArray, List.getElem?_cons_succ, List.getElem?_cons_zero]; rfl)
    go_simp
    go_at_call 38
    ((with_reducible refine (sameImage_same _ _ _ _ _ _ _ _ (w3.heap.size) (w4.heap.size) (lov6) (hiv6) d2 _ (Ixv11.out.step (by go_grown)) (Iyv11.out.step (by go_grown))).mono ?_))
    rintro e w12 ⟨rfl, hbw12⟩
    have bw12 : Below v11.heap.size v11 w12 := later (by go_grown) hbw12
    have Bw12 : Below w.heap.size w w12 := Bv11.trans (bw12.mono bsv11)
    have sw12 := hbw12.size
    (try simp at sw12)
    have tw12 := bw12.size
    have bsw12 := Bw12.size
    have Xiw12 := Lib.hid (Xiv11.out.step bw12)
    clear Xiv11 qiv11_0 qiv11_1 qiv11_2 qiv11_3
    have Xxw12 := Lib.hid (Xxv11.out.step bw12)
    clear Xxv11 qxv11_0 qxv11_1 qxv11_2 qxv11_3
    have Xyw12 := Lib.hid (Xyv11.out.step bw12)
    clear Xyv11 qyv11_0 qyv11_1 qyv11_2 qyv11_3
    have Xzw12 := Lib.hid (Xzv11.out.step bw12)
    clear Xzv11 qzv11_0 qzv11_1 qzv11_2 qzv11_3
    have Xow12 := Lib.hid (Xov11.out.step bw12)
    clear Xov11 qov11_0 qov11_1 qov11_2 qov11_3
    have ⟨qiw12_0, qiw12_1, qiw12_2, qiw12_3⟩ := Xiw12.out.open3
    have ⟨qxw12_0, qxw12_1, qxw12_2, qxw12_3⟩ := Xxw12.out.open3
    have ⟨qyw12_0, qyw12_1, qyw12_2, qyw12_3⟩ := Xyw12.out.open3
    have ⟨qzw12_0, qzw12_1, qzw12_2, qzw12_3⟩ := Xzw12.out.open3
    have ⟨qow12_0, qow12_1, qow12_2, qow12_3⟩ := Xow12.out.open3
    have Iiw12 := Lib.hid (Iiv11.out.step bw12)
    clear Iiv11
    have Imw12 := Lib.hid (Imv11.out.step bw12)
    clear Imv11
    have Ixw12 := Lib.hid (Ixv11.out.step bw12)
    clear Ixv11
    have Iyw12 := Lib.hid (Iyv11.out.step bw12)
    clear Iyv11
    have Im2w12 := Lib.hid (Im2v11.out.step bw12)
    clear Im2v11
    have Izw12 := Lib.hid (Izv11.out.step bw12)
    clear Izv11
    have Iow12 := Lib.hid (Iov11.out.step bw12)
    clear Iov11
    refine hK.out _ _ ?_ (fun hHeld => ?_)
    · (((try dsimp only); (repeat' apply And.intro) <;> (first | (simp only [World.cell?_drew, *]; done) | (simp (disch := (first | omega | (simp; omega))) only [cell_far, cell_old, World.cell?_drew, *]; done))))
    clear hK K
    try simp only [Act.put, List.setIfInBounds_toArray, List.set_cons_zero, List.set_cons_succ]
    refine takeL (i := 3) (oi := ?_) (v := ?_) ?_ (by kernel_rfl) (by kernel_rfl) (by kernel_rfl) (by kernel_rfl) ?_ (Or.inl ⟨?_, ?_⟩) (by assumption) ?_
    rotate_left 2
    · (simp only [List.getElem?_toArray, List.getElem?_cons_succ, List.getElem?_cons_zero]; rfl)
    · exact fun _ _ _ h => h
    · rfl
    · (intro w hSw; (try dsimp only at hSw); go_simp; (try with_reducible rfl))
    try simp only [Act.put, List.setIfInBounds_toArray, List.set_cons_zero, List.set_cons_succ]
    refine takeL (i := 4) (oi := ?_) (v := ?_) ?_ (by kernel_rfl) (by kernel_rfl) (by kernel_rfl) (by kernel_rfl) ?_ (Or.inl ⟨?_, ?_⟩) (by assumption) ?_
    rotate_left 2
    · (simp only [List.getElem?_toArray, List.getElem?_cons_succ, List.getElem?_cons_zero]; rfl)
    · exact fun _ _ _ h => h
    · rfl
    · (intro w hSw; (try dsimp only at hSw); go_simp; (try with_reducible rfl))
    try simp only [Act.put, List.setIfInBounds_toArray, List.set_cons_zero, List.set_cons_succ]
    refine takeL (i := 5) (oi := ?_) (v := ?_) ?_ (by kernel_rfl) (by kernel_rfl) (by kernel_rfl) (by kernel_rfl) ?_ (Or.inl ⟨?_, ?_⟩) (by assumption) ?_
    rotate_left 2
    · (simp only [List.getElem?_toArray, List.getElem?_cons_succ, List.getElem?_cons_zero]; rfl)
    · exact fun _ _ _ h => h
    · rfl
    · (intro w hSw; (try dsimp only at hSw); go_simp; (try with_reducible rfl))
    try simp only [Act.put, List.setIfInBounds_toArray, List.set_cons_zero, List.set_cons_succ]
    refine readyL (rs := [6]) (by kernel_rfl) (by simp) ?_
    refine AllReadyL.cons (o := ?_) ?_ (fun K hK => ?_) AllReadyL.none_
    rotate_left
    · (simp only [List.getElem?_toArray, List.getElem?_cons_succ, List.getElem?_cons_zero]; rfl)
    go_simp
    go_at_call 38
    ((with_reducible refine (sameImage_same _ _ _ _ _ _ _ _ (w7.heap.size) (w8.heap.size) (w.heap.size) (w1.heap.size) zs _ (Izw12.out.step (by go_grown)) (Iiw12.out.step (by go_grown))).mono ?_))
    rintro e w13 ⟨rfl, hbw13⟩
    have bw13 : Below w12.heap.size w12 w13 := later (by go_grown) hbw13
    have Bw13 : Below w.heap.size w w13 := Bw12.trans (bw13.mono bsw12)
    have sw13 := hbw13.size
    (try simp at sw13)
    have tw13 := bw13.size
    have bsw13 := Bw13.size
    have Xiw13 := Lib.hid (Xiw12.out.step bw13)
    clear Xiw12 qiw12_0 qiw12_1 qiw12_2 qiw12_3
    have Xxw13 := Lib.hid (Xxw12.out.step bw13)
    clear Xxw12 qxw12_0 qxw12_1 qxw12_2 qxw12_3
    have Xyw13 := Lib.hid (Xyw12.out.step bw13)
    clear Xyw12 qyw12_0 qyw12_1 qyw12_2 qyw12_3
    have Xzw13 := Lib.hid (Xzw12.out.step bw13)
    clear Xzw12 qzw12_0 qzw12_1 qzw12_2 qzw12_3
    have Xow13 := Lib.hid (Xow12.out.step bw13)
    clear Xow12 qow12_0 qow12_1 qow12_2 qow12_3
    have ⟨qiw13_0, qiw13_1, qiw13_2, qiw13_3⟩ := Xiw13.out.open3
    have ⟨qxw13_0, qxw13_1, qxw13_2, qxw13_3⟩ := Xxw13.out.open3
    have ⟨qyw13_0, qyw13_1, qyw13_2, qyw13_3⟩ := Xyw13.out.open3
    have ⟨qzw13_0, qzw13_1, qzw13_2, qzw13_3⟩ := Xzw13.out.open3
    have ⟨qow13_0, qow13_1, qow13_2, qow13_3⟩ := Xow13.out.open3
    have Iiw13 := Lib.hid (Iiw12.out.step bw13)
    clear Iiw12
    have Imw13 := Lib.hid (Imw12.out.step bw13)
    clear Imw12
    have Ixw13 := Lib.hid (Ixw12.out.step bw13)
    clear Ixw12
    have Iyw13 := Lib.hid (Iyw12.out.step bw13)
    clear Iyw12
    have Im2w13 := Lib.hid (Im2w12.out.step bw13)
    clear Im2w12
    have Izw13 := Lib.hid (Izw12.out.step bw13)
    clear Izw12
    have Iow13 := Lib.hid (Iow12.out.step bw13)
    clear Iow12
    refine hK.out _ _ ?_ (fun hHeld => ?_)
    · (((try dsimp only); (repeat' apply And.intro) <;> (first | (simp only [World.cell?_drew, *]; done) | (simp (disch := (first | omega | (simp; omega))) only [cell_far, cell_old, World.cell?_drew, *]; done))))
    clear hK K
    try simp only [Act.put, List.setIfInBounds_toArray, List.set_cons_zero, List.set_cons_succ]
    refine takeL (i := 7) (oi := ?_) (v := ?_) ?_ (by kernel_rfl) (by kernel_rfl) (by kernel_rfl) (by kernel_rfl) ?_ (Or.inl ⟨?_, ?_⟩) (by assumption) ?_
    rotate_left 2
    · (simp only [List.getElem?_toArray, List.getElem?_cons_succ, List.getElem?_cons_zero]; rfl)
    · exact fun _ _ _ h => h
    · rfl
    · (intro w hSw; (try dsimp only at hSw); go_simp; (try with_reducible rfl))
    try simp only [Act.put, List.setIfInBounds_toArray, List.set_cons_zero, List.set_cons_succ]
    refine takeL (i := 8) (oi := ?_) (v := ?_) ?_ (by kernel_rfl) (by kernel_rfl) (by kernel_rfl) (by kernel_rfl) ?_ (Or.inl ⟨?_, ?_⟩) (by assumption) ?_
    rotate_left 2
    · (simp only [List.getElem?_toArray, List.getElem?_cons_succ, List.getElem?_cons_zero]; rfl)
    · exact fun _ _ _ h => h
    · rfl
    · (intro w hSw; (try dsimp only at hSw); go_simp; (try with_reducible rfl))
    try simp only [Act.put, List.setIfInBounds_toArray, List.set_cons_zero, List.set_cons_succ]
    refine takeL (i := 9) (oi := ?_) (v := ?_) ?_ (by kernel_rfl) (by kernel_rfl) (by kernel_rfl) (by kernel_rfl) ?_ (Or.inl ⟨?_, ?_⟩) (by assumption) ?_
    rotate_left 2
    · (simp only [List.getElem?_toArray, List.getElem?_cons_succ, List.getElem?_cons_zero]; rfl)
    · exact fun _ _ _ h => h
    · rfl
    · (intro w hSw; (try dsimp only at hSw); go_simp; (try with_reducible rfl))
    try simp only [Act.put, List.setIfInBounds_toArray, List.set_cons_zero, List.set_cons_succ]
    refine takeL (i := 10) (oi := ?_) (v := ?_) ?_ (by kernel_rfl) (by kernel_rfl) (by kernel_rfl) (by kernel_rfl) ?_ (Or.inl ⟨?_, ?_⟩) (by assumption) ?_
    rotate_left 2
    · (simp only [List.getElem?_toArray, List.getElem?_cons_succ, List.getElem?_cons_zero]; rfl)
    · exact fun _ _ _ h => h
    · rfl
    · (intro w hSw; (try dsimp only at hSw); go_simp; (try with_reducible rfl))
    try simp only [Act.put, List.setIfInBounds_toArray, List.set_cons_zero, List.set_cons_succ]
    refine takeL (i := 11) (oi := ?_) (v := ?_) ?_ (by kernel_rfl) (by kernel_rfl) (by kernel_rfl) (by kernel_rfl) ?_ (Or.inl ⟨?_, ?_⟩) (by assumption) ?_
    rotate_left 2
    · (simp only [List.getElem?_toArray, List.getElem?_cons_succ, List.getElem?_cons_zero]; rfl)
    · exact fun _ _ _ h => h
    · rfl
    · (intro w hSw; (try dsimp only at hSw); go_simp; (try with_reducible rfl))
    try simp only [Act.put, List.setIfInBounds_toArray, List.set_cons_zero, List.set_cons_succ]
    refine takeL (i := 12) (oi := ?_) (v := ?_) ?_ (by kernel_rfl) (by kernel_rfl) (by kernel_rfl) (by kernel_rfl) ?_ (Or.inl ⟨?_, ?_⟩) (by assumption) ?_
    rotate_left 2
    · (simp only [List.getElem?_toArray, List.getElem?_cons_succ, List.getElem?_cons_zero]; rfl)
    · exact fun _ _ _ h => h
    · rfl
    · (intro w hSw; (try dsimp only at hSw); go_simp; (try with_reducible rfl))
    try simp only [Act.put, List.setIfInBounds_toArray, List.set_cons_zero, List.set_cons_succ]
    refine takeL (i := 13) (oi := ?_) (v := ?_) ?_ (by kernel_rfl) (by kernel_rfl) (by kernel_rfl) (by kernel_rfl) ?_ (Or.inl ⟨?_, ?_⟩) (by assumption) ?_
    rotate_left 2
    · (simp only [List.getElem?_toArray, List.getElem?_cons_succ, List.getElem?_cons_zero]; rfl)
    · exact fun _ _ _ h => h
    · rfl
    · (intro w hSw; (try dsimp only at hSw); go_simp; (try with_reducible rfl))
    try simp only [Act.put, List.setIfInBounds_toArray, List.set_cons_zero, List.set_cons_succ]
    refine takeL (i := 14) (oi := ?_) (v := ?_) ?_ (by kernel_rfl) (by kernel_rfl) (by kernel_rfl) (by kernel_rfl) ?_ (Or.inl ⟨?_, ?_⟩) (by assumption) ?_
    rotate_left 2
    · (simp only [List.getElem?_toArray, List.getElem?_cons_succ, List.getElem?_cons_zero]; rfl)
    · exact fun _ _ _ h => h
    · rfl
    · (intro w hSw; (try dsimp only at hSw); go_simp; (try with_reducible rfl))
    try simp only [Act.put, List.setIfInBounds_toArray, List.set_cons_zero, List.set_cons_succ]
    refine takeL (i := 15) (oi := ?_) (v := ?_) ?_ (by kernel_rfl) (by kernel_rfl) (by kernel_rfl) (by kernel_rfl) ?_ (Or.inl ⟨?_, ?_⟩) (by assumption) ?_
    rotate_left 2
    · (simp only [List.getElem?_toArray, List.getElem?_cons_succ, List.getElem?_cons_zero]; rfl)
    · exact fun _ _ _ h => h
    · rfl
    · (intro w hSw; (try dsimp only at hSw); go_simp; (try with_reducible rfl))
    try simp only [Act.put, List.setIfInBounds_toArray, List.set_cons_zero, List.set_cons_succ]
    refine takeL (i := 16) (oi := ?_) (v := ?_) ?_ (by kernel_rfl) (by kernel_rfl) (by kernel_rfl) (by kernel_rfl) ?_ (Or.inl ⟨?_, ?_⟩) (by assumption) ?_
    rotate_left 2
    · (simp only [List.getElem?_toArray, List.getElem?_cons_succ, List.getElem?_cons_zero]; rfl)
    · exact fun _ _ _ h => h
    · rfl
    · (intro w hSw; (try dsimp only at hSw); go_simp; (try with_reducible rfl))
    try simp only [Act.put, List.setIfInBounds_toArray, List.set_cons_zero, List.set_cons_succ]
    refine takeL (i := 17) (oi := ?_) (v := ?_) ?_ (by kernel_rfl) (by kernel_rfl) (by kernel_rfl) (by kernel_rfl) ?_ (Or.inl ⟨?_, ?_⟩) (by assumption) ?_
    rotate_left 2
    · (simp only [List.getElem?_toArray, List.getElem?_cons_succ, List.getElem?_cons_zero]; rfl)
    · exact fun _ _ _ h => h
    · rfl
    · (intro w hSw; (try dsimp only at hSw); go_simp; (try with_reducible rfl))
    try simp only [Act.put, List.setIfInBounds_toArray, List.set_cons_zero, List.set_cons_succ]
    refine takeL (i := 18) (oi := ?_) (v := ?_) ?_ (by kernel_rfl) (by kernel_rfl) (by kernel_rfl) (by kernel_rfl) ?_ (Or.inl ⟨?_, ?_⟩) (by assumption) ?_
    rotate_left 2
    · (simp only [List.getElem?_toArray, List.getElem?_cons_succ, List.getElem?_cons_zero]; rfl)
    · exact fun _ _ _ h => h
    · rfl
    · (intro w hSw; (try dsimp only at hSw); go_simp; (try with_reducible rfl))
    try simp only [Act.put, List.setIfInBounds_toArray, List.set_cons_zero, List.set_cons_succ]
    refine takeL (i := 19) (oi := ?_) (v := ?_) ?_ (by kernel_rfl) (by kernel_rfl) (by kernel_rfl) (by kernel_rfl) ?_ (Or.inl ⟨?_, ?_⟩) (by assumption) ?_
    rotate_left 2
    · (simp only [List.getElem?_toArray, List.getElem?_cons_succ, List.getElem?_cons_zero]; rfl)
    · exact fun _ _ _ h => h
    · rfl
    · (intro w hSw; (try dsimp only at hSw); go_simp; (try with_reducible rfl))
    try simp only [Act.put, List.setIfInBounds_toArray, List.set_cons_zero, List.set_cons_succ]
    refine takeL (i := 20) (oi := ?_) (v := ?_) ?_ (by kernel_rfl) (by kernel_rfl) (by kernel_rfl) (by kernel_rfl) ?_ (Or.inl ⟨?_, ?_⟩) (by assumption) ?_
    rotate_left 2
    · (simp only [List.getElem?_toArray, List.getElem?_cons_succ, List.getElem?_cons_zero]; rfl)
    · exact fun _ _ _ h => h
    · rfl
    · (intro w hSw; (try dsimp only at hSw); go_simp; (try with_reducible rfl))
    try simp only [Act.put, List.setIfInBounds_toArray, List.set_cons_zero, List.set_cons_succ]
    refine takeL (i := 21) (oi := ?_) (v := ?_) ?_ (by kernel_rfl) (by kernel_rfl) (by kernel_rfl) (by kernel_rfl) ?_ (Or.inl ⟨?_, ?_⟩) (by assumption) ?_
    rotate_left 2
    · (simp only [List.getElem?_toArray, List.getElem?_cons_succ, List.getElem?_cons_zero]; rfl)
    · exact fun _ _ _ h => h
    · rfl
    · (intro w hSw; (try dsimp only at hSw); go_simp; (try with_reducible rfl))
    try simp only [Act.put, List.setIfInBounds_toArray, List.set_cons_zero, List.set_cons_succ]
    refine takeL (i := 22) (oi := ?_) (v := ?_) ?_ (by kernel_rfl) (by kernel_rfl) (by kernel_rfl) (by kernel_rfl) ?_ (Or.inl ⟨?_, ?_⟩) (by assumption) ?_
    rotate_left 2
    · (simp only [List.getElem?_toArray, List.getElem?_cons_succ, List.getElem?_cons_zero]; rfl)
    · exact fun _ _ _ h => h
    · rfl
    · (intro w hSw; (try dsimp only at hSw); go_simp; (try with_reducible rfl))
    try simp only [Act.put, List.setIfInBounds_toArray, List.set_cons_zero, List.set_cons_succ]
    refine takeL (i := 23) (oi := ?_) (v := ?_) ?_ (by kernel_rfl) (by kernel_rfl) (by kernel_rfl) (by kernel_rfl) ?_ (Or.inl ⟨?_, ?_⟩) (by assumption) ?_
    rotate_left 2
    · (simp only [List.getElem?_toArray, List.getElem?_cons_succ, List.getElem?_cons_zero]; rfl)
    · exact fun _ _ _ h => h
    · rfl
    · (intro w hSw; (try dsimp only at hSw); go_simp; (try with_reducible rfl))
    try simp only [Act.put, List.setIfInBounds_toArray, List.set_cons_zero, List.set_cons_succ]
    refine takeL (i := 25) (oi := ?_) (v := ?_) ?_ (by kernel_rfl) (by kernel_rfl) (by kernel_rfl) (by kernel_rfl) ?_ (Or.inl ⟨?_, ?_⟩) (by assumption) ?_
    rotate_left 2
    · (simp only [List.getElem?_toArray, List.getElem?_cons_succ, List.getElem?_cons_zero]; rfl)
    · exact fun _ _ _ h => h
    · rfl
    · (intro w hSw; (try dsimp only at hSw); go_simp; (try with_reducible rfl))
    try simp only [Act.put, List.setIfInBounds_toArray, List.set_cons_zero, List.set_cons_succ]
    refine takeL (i := 26) (oi := ?_) (v := ?_) ?_ (by kernel_rfl) (by kernel_rfl) (by kernel_rfl) (by kernel_rfl) ?_ (Or.inl ⟨?_, ?_⟩) (by assumption) ?_
    rotate_left 2
    · (simp only [List.getElem?_toArray, List.getElem?_cons_succ, List.getElem?_cons_zero]; rfl)
    · exact fun _ _ _ h => h
    · rfl
    · (intro w hSw; (try dsimp only at hSw); go_simp; (try with_reducible rfl))
    try simp only [Act.put, List.setIfInBounds_toArray, List.set_cons_zero, List.set_cons_succ]
    refine takeL (i := 28) (oi := ?_) (v := ?_) ?_ (by kernel_rfl) (by kernel_rfl) (by kernel_rfl) (by kernel_rfl) ?_ (Or.inl ⟨?_, ?_⟩) (by assumption) ?_
    rotate_left 2
    · (simp only [List.getElem?_toArray, List.getElem?_cons_succ, List.getElem?_cons_zero]; rfl)
    · exact fun _ _ _ h => h
    · rfl
    · (intro w hSw; (try dsimp only at hSw); go_simp; (try with_reducible rfl))
    try simp only [Act.put, List.setIfInBounds_toArray, List.set_cons_zero, List.set_cons_succ]
    refine takeL (i := 29) (oi := ?_) (v := ?_) ?_ (by kernel_rfl) (by kernel_rfl) (by kernel_rfl) (by kernel_rfl) ?_ (Or.inl ⟨?_, ?_⟩) (by assumption) ?_
    rotate_left 2
    · (simp only [List.getElem?_toArray, List.getElem?_cons_succ, List.getElem?_cons_zero]; rfl)
    · exact fun _ _ _ h => h
    · rfl
    · (intro w hSw; (try dsimp only at hSw); go_simp; (try with_reducible rfl))
    try simp only [Act.put, List.setIfInBounds_toArray, List.set_cons_zero, List.set_cons_succ]
    refine takeL (i := 31) (oi := ?_) (v := ?_) ?_ (by kernel_rfl) (by kernel_rfl) (by kernel_rfl) (by kernel_rfl) ?_ (Or.inl ⟨?_, ?_⟩) (by assumption) ?_
    rotate_left 2
    · (simp only [List.getElem?_toArray, List.getElem?_cons_succ, List.getElem?_cons_zero]; rfl)
    · exact fun _ _ _ h => h
    · rfl
    · (intro w hSw; (try dsimp only at hSw); go_simp; (try with_reducible rfl))
    try simp only [Act.put, List.setIfInBounds_toArray, List.set_cons_zero, List.set_cons_succ]
    refine takeL (i := 33) (oi := ?_) (v := ?_) ?_ (by kernel_rfl) (by kernel_rfl) (by kernel_rfl) (by kernel_rfl) ?_ (Or.inl ⟨?_, ?_⟩) (by assumption) ?_
    rotate_left 2
    · (simp only [List.getElem?_toArray, List.getElem?_cons_succ, List.getElem?_cons_zero]; rfl)
    · exact fun _ _ _ h => h
    · rfl
    · (intro w hSw; (try dsimp only at hSw); go_simp; (try with_reducible rfl))
    try simp only [Act.put, List.setIfInBounds_toArray, List.set_cons_zero, List.set_cons_succ]
    refine takeL (i := 34) (oi := ?_) (v := ?_) ?_ (by kernel_rfl) (by kernel_rfl) (by kernel_rfl) (by kernel_rfl) ?_ (Or.inl ⟨?_, ?_⟩) (by assumption) ?_
    rotate_left 2
    · (simp only [List.getElem?_toArray, List.getElem?_cons_succ, List.getElem?_cons_zero]; rfl)
    · exact fun _ _ _ h => h
    · rfl
    · (intro w hSw; (try dsimp only at hSw); go_simp; (try with_reducible rfl))
    try simp only [Act.put, List.setIfInBounds_toArray, List.set_cons_zero, List.set_cons_succ]
    refine readyL (rs := [24]) (by kernel_rfl) (by simp) ?_
    refine AllReadyL.cons (o := ?_) ?_ (fun K hK => ?_) AllReadyL.none_
    rotate_left
    · (simp only [List.getElem?_toArray, List.getElem?_cons_succ, List.getElem?_cons_zero]; rfl)
    go_simp
    go_at_call 22
    ((with_reducible refine (implPixelOf _ _ _ _ _ (v9.heap.size) (w10.heap.size) d1 px py _ (Iow13.out.step (by go_grown))).mono ?_))
    rw [HE9.out]
    rintro e w14 ⟨rfl, hbw14⟩
    have bw14 : Below w13.heap.size w13 w14 := later (by go_grown) hbw14
    have Bw14 : Below w.heap.size w w14 := Bw13.trans (bw14.mono bsw13)
    have sw14 := hbw14.size
    (try simp at sw14)
    have tw14 := bw14.size
    have bsw14 := Bw14.size
    have Xiw14 := Lib.hid (Xiw13.out.step bw14)
    clear Xiw13 qiw13_0 qiw13_1 qiw13_2 qiw13_3
    have Xxw14 := Lib.hid (Xxw13.out.step bw14)
    clear Xxw13 qxw13_0 qxw13_1 qxw13_2 qxw13_3
    have Xyw14 := Lib.hid (Xyw13.out.step bw14)
    clear Xyw13 qyw13_0 qyw13_1 qyw13_2 qyw13_3
    have Xzw14 := Lib.hid (Xzw13.out.step bw14)
    clear Xzw13 qzw13_0 qzw13_1 qzw13_2 qzw13_3
    have Xow14 := Lib.hid (Xow13.out.step bw14)
    clear Xow13 qow13_0 qow13_1 qow13_2 qow13_3
    have ⟨qiw14_0, qiw14_1, qiw14_2, qiw14_3⟩ := Xiw14.out.open3
    have ⟨qxw14_0, qxw14_1, qxw14_2, qxw14_3⟩ := Xxw14.out.open3
    have ⟨qyw14_0, qyw14_1, qyw14_2, qyw14_3⟩ := Xyw14.out.open3
    have ⟨qzw14_0, qzw14_1, qzw14_2, qzw14_3⟩ := Xzw14.out.open3
    have ⟨qow14_0, qow14_1, qow14_2, qow14_3⟩ := Xow14.out.open3
    have Iiw14 := Lib.hid (Iiw13.out.step bw14)
    clear Iiw13
    have Imw14 := Lib.hid (Imw13.out.step bw14)
    clear Imw13
    have Ixw14 := Lib.hid (Ixw13.out.step bw14)
    clear Ixw13
    have Iyw14 := Lib.hid (Iyw13.out.step bw14)
    clear Iyw13
    have Im2w14 := Lib.hid (Im2w13.out.step bw14)
    clear Im2w13
    have Izw14 := Lib.hid (Izw13.out.step bw14)
    clear Izw13
    have Iow14 := Lib.hid (Iow13.out.step bw14)
    clear Iow13
    refine hK.out _ _ ?_ (fun hHeld => ?_)
    · (((try dsimp only); (repeat' apply And.intro) <;> (first | (simp only [World.cell?_drew, *]; done) | (simp (disch := (first | omega | (simp; omega))) only [cell_far, cell_old, World.cell?_drew, *]; done))))
    clear hK K
    try simp only [Act.put, List.setIfInBounds_toArray, List.set_cons_zero, List.set_cons_succ]
    refine readyL (rs := [27]) (by kernel_rfl) (by simp) ?_
    refine AllReadyL.cons (o := ?_) ?_ (fun K hK => ?_) AllReadyL.none_
    rotate_left
    · (simp only [List.getElem?_toArray, List.getElem?_cons_succ, List.getElem?_cons_zero]; rfl)
    go_simp
    go_at_call 36
    ((with_reducible refine (at_val _ _ _ z 2 _ (isRow_keep HR.out fun x hx hc => by have := isRow_lt HR.out x hx hc; first | exact (Bw14.drew).block _ this | exact Bw14.block _ this) (by omega) (by omega)).mono ?_))
    rintro e w' ⟨rfl, rfl⟩
    refine hK.out _ _ ?_ (fun hHeld => ?_)
    · (((try dsimp only); (repeat' apply And.intro) <;> (first | (simp only [World.cell?_drew, *]; done) | (simp (disch := (first | omega | (simp; omega))) only [cell_far, cell_old, World.cell?_drew, *]; done))))
    clear hK K
    try simp only [Act.put, List.setIfInBounds_toArray, List.set_cons_zero, List.set_cons_succ]
    refine takeL (i := 30) (oi := ?_) (v := ?_) ?_ (by kernel_rfl) (by kernel_rfl) (by kernel_rfl) (by kernel_rfl) ?_ (Or.inl ⟨?_, ?_⟩) (by assumption) ?_
    rotate_left 2
    · (simp only [List.getElem?_toArray, List.getElem?_cons_succ, List.getElem?_cons_zero]; rfl)
    · exact fun _ _ _ h => h
    · rfl
    · (intro w hSw; (try dsimp only at hSw); go_simp; (try with_reducible rfl))
    try simp only [Act.put, List.setIfInBounds_toArray, List.set_cons_zero, List.set_cons_succ]
    refine readyL (rs := [32]) (by kernel_rfl) (by simp) ?_
    refine AllReadyL.cons (o := ?_) ?_ (fun K hK => ?_) AllReadyL.none_
    rotate_left
    · (simp only [List.getElem?_toArray, List.getElem?_cons_succ, List.getElem?_cons_zero]; rfl)
    go_simp
    go_at_call 36
    ((with_reducible refine (at_val _ _ _ z 3 _ (isRow_keep HR.out fun x hx hc => by have := isRow_lt HR.out x hx hc; first | exact (Bw14.drew).block _ this | exact Bw14.block _ this) (by omega) (by omega)).mono ?_))
    rintro e w' ⟨rfl, rfl⟩
    refine hK.out _ _ ?_ (fun hHeld => ?_)
    · (((try dsimp only); (repeat' apply And.intro) <;> (first | (simp only [World.cell?_drew, *]; done) | (simp (disch := (first | omega | (simp; omega))) only [cell_far, cell_old, World.cell?_drew, *]; done))))
    clear hK K
    try simp only [Act.put, List.setIfInBounds_toArray, List.set_cons_zero, List.set_cons_succ]
    refine takeL (i := 35) (oi := ?_) (v := ?_) ?_ (by kernel_rfl) (by kernel_rfl) (by kernel_rfl) (by kernel_rfl) ?_ (Or.inl ⟨?_, ?_⟩) (by assumption) ?_
    rotate_left 2
    · (simp only [List.getElem?_toArray, List.getElem?_cons_succ, List.getElem?_cons_zero]; rfl)
    · exact fun _ _ _ h => h
    · rfl
    · (intro w hSw; (try dsimp only at hSw); go_simp; (try with_reducible rfl))
    try simp only [Act.put, List.setIfInBounds_toArray, List.set_cons_zero, List.set_cons_succ]
    refine readyL (rs := [36]) (by kernel_rfl) (by simp) ?_
    refine AllReadyL.cons (o := ?_) ?_ (fun K hK => ?_) AllReadyL.none_
    rotate_left
    · (simp only [List.getElem?_toArray, List.getElem?_cons_succ, List.getElem?_cons_zero]; rfl)
    go_simp
    go_at_call 21
    ((with_reducible refine (specPixelOf _ _ _ _ _ (w.heap.size) (w1.heap.size) zs (Pl.atV len z 2 % (X : Int)) (Pl.atV len z 3 % (Y : Int)) _ (Iiw14.out.step (by go_grown))).mono ?_))
    rintro e w15 ⟨rfl, hbw15⟩
    have bw15 : Below w14.heap.size w14 w15 := later (by go_grown) hbw15
    have Bw15 : Below w.heap.size w w15 := Bw14.trans (bw15.mono bsw14)
    have sw15 := hbw15.size
    (try simp at sw15)
    have tw15 := bw15.size
    have bsw15 := Bw15.size
    have Xiw15 := Lib.hid (Xiw14.out.step bw15)
    clear Xiw14 qiw14_0 qiw14_1 qiw14_2 qiw14_3
    have Xxw15 := Lib.hid (Xxw14.out.step bw15)
    clear Xxw14 qxw14_0 qxw14_1 qxw14_2 qxw14_3
    have Xyw15 := Lib.hid (Xyw14.out.step bw15)
    clear Xyw14 qyw14_0 qyw14_1 qyw14_2 qyw14_3
    have Xzw15 := Lib.hid (Xzw14.out.step bw15)
    clear Xzw14 qzw14_0 qzw14_1 qzw14_2 qzw14_3
    have Xow15 := Lib.hid (Xow14.out.step bw15)
    clear Xow14 qow14_0 qow14_1 qow14_2 qow14_3
    have ⟨qiw15_0, qiw15_1, qiw15_2, qiw15_3⟩ := Xiw15.out.open3
    have ⟨qxw15_0, qxw15_1, qxw15_2, qxw15_3⟩ := Xxw15.out.open3
    have ⟨qyw15_0, qyw15_1, qyw15_2, qyw15_3⟩ := Xyw15.out.open3
    have ⟨qzw15_0, qzw15_1, qzw15_2, qzw15_3⟩ := Xzw15.out.open3
    have ⟨qow15_0, qow15_1, qow15_2, qow15_3⟩ := Xow15.out.open3
    have Iiw15 := Lib.hid (Iiw14.out.step bw15)
    clear Iiw14
    have Imw15 := Lib.hid (Imw14.out.step bw15)
    clear Imw14
    have Ixw15 := Lib.hid (Ixw14.out.step bw15)
    clear Ixw14
    have Iyw15 := Lib.hid (Iyw14.out.step bw15)
    clear Iyw14
    have Im2w15 := Lib.hid (Im2w14.out.step bw15)
    clear Im2w14
    have Izw15 := Lib.hid (Izw14.out.step bw15)
    clear Izw14
    have Iow15 := Lib.hid (Iow14.out.step bw15)
    clear Iow14
    refine hK.out _ _ ?_ (fun hHeld => ?_)
    · (((try dsimp only); (repeat' apply And.intro) <;> (first | (simp only [World.cell?_drew, *]; done) | (simp (disch := (first | omega | (simp; omega))) only [cell_far, cell_old, World.cell?_drew, *]; done))))
    clear hK K
    try simp only [Act.put, List.setIfInBounds_toArray, List.set_cons_zero, List.set_cons_succ]
    refine takeL (i := 37) (oi := ?_) (v := ?_) ?_ (by kernel_rfl) (by kernel_rfl) (by kernel_rfl) (by kernel_rfl) ?_ (Or.inl ⟨?_, ?_⟩) (by assumption) ?_
    rotate_left 2
    · (simp only [List.getElem?_toArray, List.getElem?_cons_succ, List.getElem?_cons_zero]; rfl)
    · exact fun _ _ _ h => h
    · rfl
    · (intro w hSw; (try dsimp only at hSw); go_simp; (try with_reducible rfl))
    try simp only [Act.put, List.setIfInBounds_toArray, List.set_cons_zero, List.set_cons_succ]
    refine takeL (i := 38) (oi := ?_) (v := ?_) ?_ (by kernel_rfl) (by kernel_rfl) (by kernel_rfl) (by kernel_rfl) ?_ (Or.inl ⟨?_, ?_⟩) (by assumption) ?_
    rotate_left 2
    · (simp only [List.getElem?_toArray, List.getElem?_cons_succ, List.getElem?_cons_zero]; rfl)
    · exact fun _ _ _ h => h
    · rfl
    · (intro w hSw; (try dsimp only at hSw); go_simp; (try with_reducible rfl))
    try simp only [Act.put, List.setIfInBounds_toArray, List.set_cons_zero, List.set_cons_succ]
    refine takeL (i := 39) (oi := ?_) (v := ?_) ?_ (by kernel_rfl) (by kernel_rfl) (by kernel_rfl) (by kernel_rfl) ?_ (Or.inl ⟨?_, ?_⟩) (by assumption) ?_
    rotate_left 2
    · (simp only [List.getElem?_toArray, List.getElem?_cons_succ, List.getElem?_cons_zero]; rfl)
    · exact fun _ _ _ h => h
    · rfl
    · (intro w hSw; (try dsimp only at hSw); go_simp; (try with_reducible rfl))
    try simp only [Act.put, List.setIfInBounds_toArray, List.set_cons_zero, List.set_cons_succ]
    refine doneL (by kernel_rfl) ?_ _
    clear wX wY u2 u3 r2 r3
    go_wp2_with fail
    go_ret
    exact ⟨rfl, by go_grown⟩
end Go.Proofs.Ytbgemonpkncldaa
