/- The law FnRects: it returns true. -/
import Derived.Test.YtadghhajegpaiaaDr2
import Derived.Test.YtadghhajegpaiaaOrd
import Derived.Test.YtadghhajegpaiaaCov
import Derived.Test.YtadghhajegpaiaaRect4
import Derived.Test.YtadghhajegpaiaaAt
import Derived.Test.YtadghhajegpaiaaRectLaw
import Derived.Deep.DeepCutAuto
namespace Go.Proofs.Ytadghhajegpaiaa
open Go.RowKit
set_option linter.unusedVariables false
set_option linter.unusedSimpArgs false
theorem isRow_len {w : World} {a : Option Addr} {len cap : Nat} {zs : List Int} (hr : IsRow .u8 w a len cap zs) : len ≤ 9223372036854775807 := by
  rcases hr with ⟨rfl, rfl, rfl, rfl⟩ | ⟨x, rfl, hl, hm, _⟩
  · omega
  · unfold maxLen at hm; omega
set_option maxHeartbeats 8000000 in
theorem walkFnRects (a : Option Addr) (len cap : Nat) (z : List Int) (w : World) (hr : IsRow .u8 w a len cap z) : Calls Try.prog 9 #[.slice a len cap] w fun e w' => e = .returned (.bool true) ∧ Below w.heap.size w w' := by
  have hl := isRow_len hr
  by_cases hbig : 1048576 < len
  · go_enter Try.func9, Try.ntmps9
    go_wp2_with fail
    refine (big_any _ _ _ _ hl).mono ?_
    rintro e w' ⟨rfl, rfl⟩
    go_wp2_with fail
    go_ret
    exact ⟨rfl, Below.refl _ _⟩
  have HR := Lib.hid hr
  clear hr
  have Bw : Below w.heap.size w w := Below.refl _ _
  have bsw := Bw.size
  go_enter Try.func9, Try.ntmps9
  go_wp2_with fail
  refine (big_any _ _ _ _ hl).mono ?_
  rintro e w' ⟨rfl, rfl⟩
  go_wp2_with fail
  refine (drawRects a len cap z _ HR.out (by omega)).mono ?_
  rintro e w1 ⟨rx, ry, rw, rh, sx, sy, sw, sh, hS1, hS2, rfl, hbw1⟩
  have bw1 : Below w.heap.size w w1 := later (by go_grown) hbw1
  have Bw1 : Below w.heap.size w w1 := Bw.trans (bw1.mono bsw)
  have sw1 := hbw1.size
  (try simp at sw1)
  have tw1 := bw1.size
  have bsw1 := Bw1.size
  obtain ⟨ix, iy, iw, ih, hi, ok1, hp, hi2, cv1⟩ := Pl.inter_small hS1 hS2
  obtain ⟨ux, uy, uw, uh, hu, ok2, cv2, cv3⟩ := Pl.bounds_small hS1 hS2
  obtain ⟨mx, my, hm1, hm2⟩ := Pl.moved_back hS1
  have HI := Lib.hid hi
  have HI2 := Lib.hid hi2
  have HU := Lib.hid hu
  have HM1 := Lib.hid hm1
  have HM2 := Lib.hid hm2
  have OK2 := Lib.hid ok2
  have CV1 := Lib.hid cv1
  have CV2 := Lib.hid cv2
  have CV3 := Lib.hid cv3
  have HP := Lib.hid hp
  clear hi hu hm1 hm2 ok1 ok2 cv1 cv2 cv3 hp hi2 hS1 hS2
  go_wp2_with fail
  refine (implIntersect rx ry rw rh sx sy sw sh _).mono ?_
  rw [HI.out]
  rintro e w2 ⟨rfl, hbw2⟩
  have bw2 : Below w1.heap.size w1 w2 := later (by go_grown) hbw2
  have Bw2 : Below w.heap.size w w2 := Bw1.trans (bw2.mono bsw1)
  have sw2 := hbw2.size
  (try simp at sw2)
  have tw2 := bw2.size
  have bsw2 := Bw2.size
  have XAw2 := Lib.hid (Box.of4 hbw2 (w1.heap.size) (by first | omega | (simp; done) | (simp; omega)) (v0 := .int .i64 rx)  (v1 := .int .i64 ry)  (v2 := .int .i64 rw)  (v3 := .int .i64 rh) (by simp [go_sem]) (by simp [go_sem]) (by simp [go_sem]) (by simp [go_sem]))
  have XBw2 := Lib.hid (Box.of4 hbw2 (w1.heap.size + 1) (by first | omega | (simp; done) | (simp; omega)) (v0 := .int .i64 sx)  (v1 := .int .i64 sy)  (v2 := .int .i64 sw)  (v3 := .int .i64 sh) (by simp [go_sem]) (by simp [go_sem]) (by simp [go_sem]) (by simp [go_sem]))
  have ⟨qAw2_0, qAw2_1, qAw2_2, qAw2_3, qAw2_4⟩ := XAw2.out.open4
  have ⟨qBw2_0, qBw2_1, qBw2_2, qBw2_3, qBw2_4⟩ := XBw2.out.open4
  go_wp2_with fail
  refine (implBounds rx ry rw rh sx sy sw sh _).mono ?_
  rw [HU.out]
  rintro e w3 ⟨rfl, hbw3⟩
  have bw3 : Below w2.heap.size w2 w3 := later (by go_grown) hbw3
  have Bw3 : Below w.heap.size w w3 := Bw2.trans (bw3.mono bsw2)
  have sw3 := hbw3.size
  (try simp at sw3)
  have tw3 := bw3.size
  have bsw3 := Bw3.size
  have XAw3 := Lib.hid (XAw2.out.step bw3)
  clear XAw2 qAw2_0 qAw2_1 qAw2_2 qAw2_3 qAw2_4
  have XBw3 := Lib.hid (XBw2.out.step bw3)
  clear XBw2 qBw2_0 qBw2_1 qBw2_2 qBw2_3 qBw2_4
  have XRw3 := Lib.hid (Box.of4 hbw3 (w2.heap.size) (by first | omega | (simp; done) | (simp; omega)) (v0 := .int .i64 ix)  (v1 := .int .i64 iy)  (v2 := .int .i64 iw)  (v3 := .int .i64 ih) (by simp [go_sem]) (by simp [go_sem]) (by simp [go_sem]) (by simp [go_sem]))
  have ⟨qAw3_0, qAw3_1, qAw3_2, qAw3_3, qAw3_4⟩ := XAw3.out.open4
  have ⟨qBw3_0, qBw3_1, qBw3_2, qBw3_3, qBw3_4⟩ := XBw3.out.open4
  have ⟨qRw3_0, qRw3_1, qRw3_2, qRw3_3, qRw3_4⟩ := XRw3.out.open4
  go_wp2_with fail
  skip
  refine (at_any _ _ _ z _ _ (isRow_keep HR.out fun x hx hc => by have := isRow_lt HR.out x hx hc; exact ((by go_grown : Below w.heap.size w _)).block _ this) (by omega) (by omega)).mono ?_
  rintro e w' ⟨p, p0, p1, rfl, rfl⟩
  go_wp2_with fail
  refine (at_any _ _ _ z _ _ (isRow_keep HR.out fun x hx hc => by have := isRow_lt HR.out x hx hc; exact ((by go_grown : Below w.heap.size w _)).block _ this) (by omega) (by omega)).mono ?_
  rintro e w' ⟨q, q0, q1, rfl, rfl⟩
  have ⟨pm0, pm1⟩ : 0 ≤ p % 24 ∧ p % 24 < 24 := ⟨Int.emod_nonneg _ (by omega), Int.emod_lt_of_pos _ (by omega)⟩
  have ⟨qm0, qm1⟩ : 0 ≤ q % 20 ∧ q % 20 < 20 := ⟨Int.emod_nonneg _ (by omega), Int.emod_lt_of_pos _ (by omega)⟩
  go_upto_region 8 with fail
  have bv4 : Below w3.heap.size w3 (w3.alloc (.cells #[.int .i64 ux, .int .i64 uy, .int .i64 uw, .int .i64 uh] 27)) := by go_grown
  have sv4 : w3.heap.size + 1 ≤ (w3.alloc (.cells #[.int .i64 ux, .int .i64 uy, .int .i64 uw, .int .i64 uh] 27)).heap.size := by simp
  have rv4 : (w3.alloc (.cells #[.int .i64 ux, .int .i64 uy, .int .i64 uw, .int .i64 uh] 27)).heap.size ≤ w3.heap.size + 1 := by simp
  have ZUv4 : Box (w3.alloc (.cells #[.int .i64 ux, .int .i64 uy, .int .i64 uw, .int .i64 uh] 27)) (w3.heap.size) [.int .i64 ux, .int .i64 uy, .int .i64 uw, .int .i64 uh] := Box.of4 (Below.refl _ _) _ (by first | (simp; done) | (simp; omega)) (by simp [go_sem]) (by simp [go_sem]) (by simp [go_sem]) (by simp [go_sem])
  generalize (w3.alloc (.cells #[.int .i64 ux, .int .i64 uy, .int .i64 uw, .int .i64 uh] 27)) = v4 at *
  have Bv4 : Below w.heap.size w v4 := Bw3.trans (bv4.mono bsw3)
  have tv4 := bv4.size
  have bsv4 := Bv4.size
  have XAv4 := Lib.hid (XAw3.out.step bv4)
  clear XAw3 qAw3_0 qAw3_1 qAw3_2 qAw3_3 qAw3_4
  have XBv4 := Lib.hid (XBw3.out.step bv4)
  clear XBw3 qBw3_0 qBw3_1 qBw3_2 qBw3_3 qBw3_4
  have XRv4 := Lib.hid (XRw3.out.step bv4)
  clear XRw3 qRw3_0 qRw3_1 qRw3_2 qRw3_3 qRw3_4
  have XUv4 := Lib.hid ZUv4
  clear ZUv4
  have ⟨qAv4_0, qAv4_1, qAv4_2, qAv4_3, qAv4_4⟩ := XAv4.out.open4
  have ⟨qBv4_0, qBv4_1, qBv4_2, qBv4_3, qBv4_4⟩ := XBv4.out.open4
  have ⟨qRv4_0, qRv4_1, qRv4_2, qRv4_3, qRv4_4⟩ := XRv4.out.open4
  have ⟨qUv4_0, qUv4_1, qUv4_2, qUv4_3, qUv4_4⟩ := XUv4.out.open4
  generalize p % 24 - 6 = px at *
  generalize q % 20 - 6 = py at *
  clear pm0 pm1 qm0 qm1 p0 p1 q0 q1
  go_cut [52] (fun s52 wx => s52 = .bool false ∧ Below v4.heap.size v4 wx)
  case first =>
    clear qUv4_0 qUv4_1 qUv4_2 qUv4_3 qUv4_4 XUv4
    have HE := fun (w : World) => neq_rect w ix iy iw ih ix iy iw ih
    have HG := guard_rect
    have E := Lib.hid (HP.out px py)
    cases hpa : Pl.hasPoint rx ry rw rh px py
    case true =>
      cases hpb : Pl.hasPoint sx sy sw sh px py
      case true =>
        refine regionL (S := (fun w' => w'.cell? ⟨w1.heap.size, 0, none⟩ = some (.int .i64 rx) ∧ w'.cell? ⟨w1.heap.size, 1, none⟩ = some (.int .i64 ry) ∧ w'.cell? ⟨w1.heap.size, 2, none⟩ = some (.int .i64 rw) ∧ w'.cell? ⟨w1.heap.size, 3, none⟩ = some (.int .i64 rh) ∧ w'.cell? ⟨w1.heap.size + 1, 0, none⟩ = some (.int .i64 sx) ∧ w'.cell? ⟨w1.heap.size + 1, 1, none⟩ = some (.int .i64 sy) ∧ w'.cell? ⟨w1.heap.size + 1, 2, none⟩ = some (.int .i64 sw) ∧ w'.cell? ⟨w1.heap.size + 1, 3, none⟩ = some (.int .i64 sh) ∧ w'.cell? ⟨w2.heap.size, 0, none⟩ = some (.int .i64 ix) ∧ w'.cell? ⟨w2.heap.size, 1, none⟩ = some (.int .i64 iy) ∧ w'.cell? ⟨w2.heap.size, 2, none⟩ = some (.int .i64 iw) ∧ w'.cell? ⟨w2.heap.size, 3, none⟩ = some (.int .i64 ih))) (L := 22) (by kernel_rfl) ?_ (fun hHeld => ?_)
        · (((try dsimp only); (repeat' apply And.intro) <;> (first | (simp only [World.cell?_drew, *]; done) | (simp (disch := (first | omega | (simp; omega))) only [cell_far, cell_old, World.cell?_drew, *]; done))))
        refine takeL (i := 0) (oi := ?_) (v := ?_) ?_ (by kernel_rfl) (by kernel_rfl) (by kernel_rfl) (by kernel_rfl) ?_ (Or.inl ⟨?_, ?_⟩) (by assumption) ?_
        rotate_left 2
        · (simp only [List.getElem?_toArray, List.getElem?_cons_succ, List.getElem?_cons_zero]; rfl)
        · exact fun _ _ _ h => h
        · rfl
        · (intro w hSw; (try dsimp only at hSw); go_simp; (try with_reducible rfl))
        try simp only [Act.put, List.setIfInBounds_toArray, List.set_cons_zero, List.set_cons_succ]
        refine takeL (i := 1) (oi := ?_) (v := ?_) ?_ (by kernel_rfl) (by kernel_rfl) (by kernel_rfl) (by kernel_rfl) ?_ (Or.inl ⟨?_, ?_⟩) (by assumption) ?_
        rotate_left 2
        · (simp only [List.getElem?_toArray, List.getElem?_cons_succ, List.getElem?_cons_zero]; rfl)
        · exact fun _ _ _ h => h
        · rfl
        · (intro w hSw; (try dsimp only at hSw); go_simp; (try with_reducible rfl))
        try simp only [Act.put, List.setIfInBounds_toArray, List.set_cons_zero, List.set_cons_succ]
        refine takeL (i := 2) (oi := ?_) (v := ?_) ?_ (by kernel_rfl) (by kernel_rfl) (by kernel_rfl) (by kernel_rfl) ?_ (Or.inl ⟨?_, ?_⟩) (by assumption) ?_
        rotate_left 2
        · (simp only [List.getElem?_toArray, List.getElem?_cons_succ, List.getElem?_cons_zero]; rfl)
        · exact fun _ _ _ h => h
        · rfl
        · (intro w hSw; (try dsimp only at hSw); go_simp; (try with_reducible rfl))
        try simp only [Act.put, List.setIfInBounds_toArray, List.set_cons_zero, List.set_cons_succ]
        refine takeL (i := 4) (oi := ?_) (v := ?_) ?_ (by kernel_rfl) (by kernel_rfl) (by kernel_rfl) (by kernel_rfl) ?_ (Or.inl ⟨?_, ?_⟩) (by assumption) ?_
        rotate_left 2
        · (simp only [List.getElem?_toArray, List.getElem?_cons_succ, List.getElem?_cons_zero]; rfl)
        · exact fun _ _ _ h => h
        · rfl
        · (intro w hSw; (try dsimp only at hSw); go_simp; (try with_reducible rfl))
        try simp only [Act.put, List.setIfInBounds_toArray, List.set_cons_zero, List.set_cons_succ]
        refine takeL (i := 5) (oi := ?_) (v := ?_) ?_ (by kernel_rfl) (by kernel_rfl) (by kernel_rfl) (by kernel_rfl) ?_ (Or.inl ⟨?_, ?_⟩) (by assumption) ?_
        rotate_left 2
        · (simp only [List.getElem?_toArray, List.getElem?_cons_succ, List.getElem?_cons_zero]; rfl)
        · exact fun _ _ _ h => h
        · rfl
        · (intro w hSw; (try dsimp only at hSw); go_simp; (try with_reducible rfl))
        try simp only [Act.put, List.setIfInBounds_toArray, List.set_cons_zero, List.set_cons_succ]
        refine takeL (i := 6) (oi := ?_) (v := ?_) ?_ (by kernel_rfl) (by kernel_rfl) (by kernel_rfl) (by kernel_rfl) ?_ (Or.inl ⟨?_, ?_⟩) (by assumption) ?_
        rotate_left 2
        · (simp only [List.getElem?_toArray, List.getElem?_cons_succ, List.getElem?_cons_zero]; rfl)
        · exact fun _ _ _ h => h
        · rfl
        · (intro w hSw; (try dsimp only at hSw); go_simp; (try with_reducible rfl))
        try simp only [Act.put, List.setIfInBounds_toArray, List.set_cons_zero, List.set_cons_succ]
        refine readyL (rs := [3]) (by kernel_rfl) (by simp) ?_
        refine AllReadyL.cons (o := ?_) ?_ (fun K hK => ?_) AllReadyL.none_
        rotate_left
        · (simp only [List.getElem?_toArray, List.getElem?_cons_succ, List.getElem?_cons_zero]; rfl)
        go_simp
        go_at_call 32
        ((with_reducible refine (implHasPoint ix iy iw ih px py _).mono ?_))
        rw [E.out, hpa, hpb]; rintro e w5 ⟨rfl, hbw5⟩
        have bw5 : Below v4.heap.size v4 w5 := later (by go_grown) hbw5
        have Bw5 : Below w.heap.size w w5 := Bv4.trans (bw5.mono bsv4)
        have sw5 := hbw5.size
        (try simp at sw5)
        have tw5 := bw5.size
        have bsw5 := Bw5.size
        have XAw5 := Lib.hid (XAv4.out.step bw5)
        clear XAv4 qAv4_0 qAv4_1 qAv4_2 qAv4_3 qAv4_4
        have XBw5 := Lib.hid (XBv4.out.step bw5)
        clear XBv4 qBv4_0 qBv4_1 qBv4_2 qBv4_3 qBv4_4
        have XRw5 := Lib.hid (XRv4.out.step bw5)
        clear XRv4 qRv4_0 qRv4_1 qRv4_2 qRv4_3 qRv4_4
        have ⟨qAw5_0, qAw5_1, qAw5_2, qAw5_3, qAw5_4⟩ := XAw5.out.open4
        have ⟨qBw5_0, qBw5_1, qBw5_2, qBw5_3, qBw5_4⟩ := XBw5.out.open4
        have ⟨qRw5_0, qRw5_1, qRw5_2, qRw5_3, qRw5_4⟩ := XRw5.out.open4
        refine hK.out _ _ ?_ (fun hHeld => ?_)
        · (((try dsimp only); (repeat' apply And.intro) <;> (first | (simp only [World.cell?_drew, *]; done) | (simp (disch := (first | omega | (simp; omega))) only [cell_far, cell_old, World.cell?_drew, *]; done))))
        clear hK K
        try simp only [Act.put, List.setIfInBounds_toArray, List.set_cons_zero, List.set_cons_succ]
        refine readyL (rs := [7]) (by kernel_rfl) (by simp) ?_
        refine AllReadyL.cons (o := ?_) ?_ (fun K hK => ?_) AllReadyL.none_
        rotate_left
        · (simp only [List.getElem?_toArray, List.getElem?_cons_succ, List.getElem?_cons_zero]; rfl)
        go_simp
        go_at_call 32
        ((with_reducible refine (implHasPoint rx ry rw rh px py _).mono ?_))
        rw [hpa]; rintro e w6 ⟨rfl, hbw6⟩
        have bw6 : Below w5.heap.size w5 w6 := later (by go_grown) hbw6
        have Bw6 : Below w.heap.size w w6 := Bw5.trans (bw6.mono bsw5)
        have sw6 := hbw6.size
        (try simp at sw6)
        have tw6 := bw6.size
        have bsw6 := Bw6.size
        have XAw6 := Lib.hid (XAw5.out.step bw6)
        clear XAw5 qAw5_0 qAw5_1 qAw5_2 qAw5_3 qAw5_4
        have XBw6 := Lib.hid (XBw5.out.step bw6)
        clear XBw5 qBw5_0 qBw5_1 qBw5_2 qBw5_3 qBw5_4
        have XRw6 := Lib.hid (XRw5.out.step bw6)
        clear XRw5 qRw5_0 qRw5_1 qRw5_2 qRw5_3 qRw5_4
        have ⟨qAw6_0, qAw6_1, qAw6_2, qAw6_3, qAw6_4⟩ := XAw6.out.open4
        have ⟨qBw6_0, qBw6_1, qBw6_2, qBw6_3, qBw6_4⟩ := XBw6.out.open4
        have ⟨qRw6_0, qRw6_1, qRw6_2, qRw6_3, qRw6_4⟩ := XRw6.out.open4
        refine hK.out _ _ ?_ (fun hHeld => ?_)
        · (((try dsimp only); (repeat' apply And.intro) <;> (first | (simp only [World.cell?_drew, *]; done) | (simp (disch := (first | omega | (simp; omega))) only [cell_far, cell_old, World.cell?_drew, *]; done))))
        clear hK K
        try simp only [Act.put, List.setIfInBounds_toArray, List.set_cons_zero, List.set_cons_succ]
        refine takeL (i := 8) (oi := ?_) (v := ?_) ?_ (by kernel_rfl) (by kernel_rfl) (by kernel_rfl) (by kernel_rfl) ?_ (Or.inl ⟨?_, ?_⟩) (by assumption) ?_
        rotate_left 2
        · (simp only [List.getElem?_toArray, List.getElem?_cons_succ, List.getElem?_cons_zero]; rfl)
        · exact fun _ _ _ h => h
        · rfl
        · (intro w hSw; (try dsimp only at hSw); go_simp; (try with_reducible rfl))
        try simp only [Act.put, List.setIfInBounds_toArray, List.set_cons_zero, List.set_cons_succ]
        refine takeL (i := 9) (oi := ?_) (v := ?_) ?_ (by kernel_rfl) (by kernel_rfl) (by kernel_rfl) (by kernel_rfl) ?_ (Or.inl ⟨?_, ?_⟩) (by assumption) ?_
        rotate_left 2
        · (simp only [List.getElem?_toArray, List.getElem?_cons_succ, List.getElem?_cons_zero]; rfl)
        · exact fun _ _ _ h => h
        · rfl
        · (intro w hSw; (try dsimp only at hSw); go_simp; (try with_reducible rfl))
        try simp only [Act.put, List.setIfInBounds_toArray, List.set_cons_zero, List.set_cons_succ]
        refine takeL (i := 10) (oi := ?_) (v := ?_) ?_ (by kernel_rfl) (by kernel_rfl) (by kernel_rfl) (by kernel_rfl) ?_ (Or.inl ⟨?_, ?_⟩) (by assumption) ?_
        rotate_left 2
        · (simp only [List.getElem?_toArray, List.getElem?_cons_succ, List.getElem?_cons_zero]; rfl)
        · exact fun _ _ _ h => h
        · rfl
        · (intro w hSw; (try dsimp only at hSw); go_simp; (try with_reducible rfl))
        try simp only [Act.put, List.setIfInBounds_toArray, List.set_cons_zero, List.set_cons_succ]
        refine takeL (i := 11) (oi := ?_) (v := ?_) ?_ (by kernel_rfl) (by kernel_rfl) (by kernel_rfl) (by kernel_rfl) ?_ (Or.inl ⟨?_, ?_⟩) (by assumption) ?_
        rotate_left 2
        · (simp only [List.getElem?_toArray, List.getElem?_cons_succ, List.getElem?_cons_zero]; rfl)
        · exact fun _ _ _ h => h
        · rfl
        · (intro w hSw; (try dsimp only at hSw); go_simp; (try with_reducible rfl))
        try simp only [Act.put, List.setIfInBounds_toArray, List.set_cons_zero, List.set_cons_succ]
        refine readyL (rs := [12]) (by kernel_rfl) (by simp) ?_
        refine AllReadyL.cons (o := ?_) ?_ (fun K hK => ?_) AllReadyL.none_
        rotate_left
        · (simp only [List.getElem?_toArray, List.getElem?_cons_succ, List.getElem?_cons_zero]; rfl)
        go_simp
        go_at_call 32
        ((with_reducible refine (implHasPoint sx sy sw sh px py _).mono ?_))
        rw [hpb]; rintro e w7 ⟨rfl, hbw7⟩
        have bw7 : Below w6.heap.size w6 w7 := later (by go_grown) hbw7
        have Bw7 : Below w.heap.size w w7 := Bw6.trans (bw7.mono bsw6)
        have sw7 := hbw7.size
        (try simp at sw7)
        have tw7 := bw7.size
        have bsw7 := Bw7.size
        have XAw7 := Lib.hid (XAw6.out.step bw7)
        clear XAw6 qAw6_0 qAw6_1 qAw6_2 qAw6_3 qAw6_4
        have XBw7 := Lib.hid (XBw6.out.step bw7)
        clear XBw6 qBw6_0 qBw6_1 qBw6_2 qBw6_3 qBw6_4
        have XRw7 := Lib.hid (XRw6.out.step bw7)
        clear XRw6 qRw6_0 qRw6_1 qRw6_2 qRw6_3 qRw6_4
        have ⟨qAw7_0, qAw7_1, qAw7_2, qAw7_3, qAw7_4⟩ := XAw7.out.open4
        have ⟨qBw7_0, qBw7_1, qBw7_2, qBw7_3, qBw7_4⟩ := XBw7.out.open4
        have ⟨qRw7_0, qRw7_1, qRw7_2, qRw7_3, qRw7_4⟩ := XRw7.out.open4
        refine hK.out _ _ ?_ (fun hHeld => ?_)
        · (((try dsimp only); (repeat' apply And.intro) <;> (first | (simp only [World.cell?_drew, *]; done) | (simp (disch := (first | omega | (simp; omega))) only [cell_far, cell_old, World.cell?_drew, *]; done))))
        clear hK K
        try simp only [Act.put, List.setIfInBounds_toArray, List.set_cons_zero, List.set_cons_succ]
        refine takeL (i := 13) (oi := ?_) (v := ?_) ?_ (by kernel_rfl) (by kernel_rfl) (by kernel_rfl) (by kernel_rfl) ?_ (Or.inl ⟨?_, ?_⟩) (by assumption) ?_
        rotate_left 2
        · (simp only [List.getElem?_toArray, List.getElem?_cons_succ, List.getElem?_cons_zero]; rfl)
        · exact fun _ _ _ h => h
        · rfl
        · (intro w hSw; (try dsimp only at hSw); go_simp; (try with_reducible rfl))
        try simp only [Act.put, List.setIfInBounds_toArray, List.set_cons_zero, List.set_cons_succ]
        refine takeL (i := 14) (oi := ?_) (v := ?_) ?_ (by kernel_rfl) (by kernel_rfl) (by kernel_rfl) (by kernel_rfl) ?_ (Or.inl ⟨?_, ?_⟩) (by assumption) ?_
        rotate_left 2
        · (simp only [List.getElem?_toArray, List.getElem?_cons_succ, List.getElem?_cons_zero]; rfl)
        · exact fun _ _ _ h => h
        · rfl
        · (intro w hSw; (try dsimp only at hSw); go_simp; (try with_reducible rfl))
        try simp only [Act.put, List.setIfInBounds_toArray, List.set_cons_zero, List.set_cons_succ]
        refine takeL (i := 15) (oi := ?_) (v := ?_) ?_ (by kernel_rfl) (by kernel_rfl) (by kernel_rfl) (by kernel_rfl) ?_ (Or.inl ⟨?_, ?_⟩) (by assumption) ?_
        rotate_left 2
        · (simp only [List.getElem?_toArray, List.getElem?_cons_succ, List.getElem?_cons_zero]; rfl)
        · exact fun _ _ _ h => h
        · rfl
        · (intro w hSw; (try dsimp only at hSw); go_simp; (try with_reducible rfl))
        try simp only [Act.put, List.setIfInBounds_toArray, List.set_cons_zero, List.set_cons_succ]
        refine takeL (i := 16) (oi := ?_) (v := ?_) ?_ (by kernel_rfl) (by kernel_rfl) (by kernel_rfl) (by kernel_rfl) ?_ (Or.inl ⟨?_, ?_⟩) (by assumption) ?_
        rotate_left 2
        · (simp only [List.getElem?_toArray, List.getElem?_cons_succ, List.getElem?_cons_zero]; rfl)
        · exact fun _ _ _ h => h
        · rfl
        · (intro w hSw; (try dsimp only at hSw); go_simp; (try with_reducible rfl))
        try simp only [Act.put, List.setIfInBounds_toArray, List.set_cons_zero, List.set_cons_succ]
        refine takeL (i := 17) (oi := ?_) (v := ?_) ?_ (by kernel_rfl) (by kernel_rfl) (by kernel_rfl) (by kernel_rfl) ?_ (Or.inl ⟨?_, ?_⟩) (by assumption) ?_
        rotate_left 2
        · (simp only [List.getElem?_toArray, List.getElem?_cons_succ, List.getElem?_cons_zero]; rfl)
        · exact fun _ _ _ h => h
        · rfl
        · (intro w hSw; (try dsimp only at hSw); go_simp; (try with_reducible rfl))
        try simp only [Act.put, List.setIfInBounds_toArray, List.set_cons_zero, List.set_cons_succ]
        refine takeL (i := 18) (oi := ?_) (v := ?_) ?_ (by kernel_rfl) (by kernel_rfl) (by kernel_rfl) (by kernel_rfl) ?_ (Or.inl ⟨?_, ?_⟩) (by assumption) ?_
        rotate_left 2
        · (simp only [List.getElem?_toArray, List.getElem?_cons_succ, List.getElem?_cons_zero]; rfl)
        · exact fun _ _ _ h => h
        · rfl
        · (intro w hSw; (try dsimp only at hSw); go_simp; (try with_reducible rfl))
        try simp only [Act.put, List.setIfInBounds_toArray, List.set_cons_zero, List.set_cons_succ]
        refine readyL (rs := [19]) (by kernel_rfl) (by simp) ?_
        refine AllReadyL.cons (o := ?_) ?_ (fun K hK => ?_) AllReadyL.none_
        rotate_left
        · (simp only [List.getElem?_toArray, List.getElem?_cons_succ, List.getElem?_cons_zero]; rfl)
        go_simp
        go_at_call 26
        ((with_reducible refine (implIntersect sx sy sw sh rx ry rw rh _).mono ?_))
        rw [HI2.out]; rintro e w8 ⟨rfl, hbw8⟩
        have bw8 : Below w7.heap.size w7 w8 := later (by go_grown) hbw8
        have Bw8 : Below w.heap.size w w8 := Bw7.trans (bw8.mono bsw7)
        have sw8 := hbw8.size
        (try simp at sw8)
        have tw8 := bw8.size
        have bsw8 := Bw8.size
        have XAw8 := Lib.hid (XAw7.out.step bw8)
        clear XAw7 qAw7_0 qAw7_1 qAw7_2 qAw7_3 qAw7_4
        have XBw8 := Lib.hid (XBw7.out.step bw8)
        clear XBw7 qBw7_0 qBw7_1 qBw7_2 qBw7_3 qBw7_4
        have XRw8 := Lib.hid (XRw7.out.step bw8)
        clear XRw7 qRw7_0 qRw7_1 qRw7_2 qRw7_3 qRw7_4
        have ⟨qAw8_0, qAw8_1, qAw8_2, qAw8_3, qAw8_4⟩ := XAw8.out.open4
        have ⟨qBw8_0, qBw8_1, qBw8_2, qBw8_3, qBw8_4⟩ := XBw8.out.open4
        have ⟨qRw8_0, qRw8_1, qRw8_2, qRw8_3, qRw8_4⟩ := XRw8.out.open4
        refine hK.out _ _ ?_ (fun hHeld => ?_)
        · (((try dsimp only); (repeat' apply And.intro) <;> (first | (simp only [World.cell?_drew, *]; done) | (simp (disch := (first | omega | (simp; omega))) only [cell_far, cell_old, World.cell?_drew, *]; done))))
        clear hK K
        try simp only [Act.put, List.setIfInBounds_toArray, List.set_cons_zero, List.set_cons_succ]
        refine takeL (i := 20) (oi := ?_) (v := ?_) ?_ (by kernel_rfl) (by kernel_rfl) (by kernel_rfl) (by kernel_rfl) ?_ (Or.inl ⟨?_, ?_⟩) (by assumption) ?_
        rotate_left 2
        · (simp only [List.getElem?_toArray, List.getElem?_cons_succ, List.getElem?_cons_zero]; rfl)
        · exact fun _ _ _ h => h
        · rfl
        · (intro w hSw; (try dsimp only at hSw); go_simp; (try with_reducible rfl))
        try simp only [Act.put, List.setIfInBounds_toArray, List.set_cons_zero, List.set_cons_succ]
        refine takeL (i := 21) (oi := ?_) (v := ?_) ?_ (by kernel_rfl) (by kernel_rfl) (by kernel_rfl) (by kernel_rfl) ?_ (Or.inl ⟨?_, ?_⟩) (by assumption) ?_
        rotate_left 2
        · (simp only [List.getElem?_toArray, List.getElem?_cons_succ, List.getElem?_cons_zero]; rfl)
        · exact fun _ _ _ h => h
        · rfl
        · (intro w hSw; (try dsimp only at hSw); go_simp; (try with_reducible rfl))
        try simp only [Act.put, List.setIfInBounds_toArray, List.set_cons_zero, List.set_cons_succ]
        refine doneL (by kernel_rfl) ?_ _
        go_wp2_with fail
        go_meet
        case rel => exact ⟨rfl, (((bw5.trans (bw6.mono (by omega))).trans (bw7.mono (by omega))).trans (bw8.mono (by omega)))⟩
      case false =>
        refine regionL (S := (fun w' => w'.cell? ⟨w1.heap.size, 0, none⟩ = some (.int .i64 rx) ∧ w'.cell? ⟨w1.heap.size, 1, none⟩ = some (.int .i64 ry) ∧ w'.cell? ⟨w1.heap.size, 2, none⟩ = some (.int .i64 rw) ∧ w'.cell? ⟨w1.heap.size, 3, none⟩ = some (.int .i64 rh) ∧ w'.cell? ⟨w1.heap.size + 1, 0, none⟩ = some (.int .i64 sx) ∧ w'.cell? ⟨w1.heap.size + 1, 1, none⟩ = some (.int .i64 sy) ∧ w'.cell? ⟨w1.heap.size + 1, 2, none⟩ = some (.int .i64 sw) ∧ w'.cell? ⟨w1.heap.size + 1, 3, none⟩ = some (.int .i64 sh) ∧ w'.cell? ⟨w2.heap.size, 0, none⟩ = some (.int .i64 ix) ∧ w'.cell? ⟨w2.heap.size, 1, none⟩ = some (.int .i64 iy) ∧ w'.cell? ⟨w2.heap.size, 2, none⟩ = some (.int .i64 iw) ∧ w'.cell? ⟨w2.heap.size, 3, none⟩ = some (.int .i64 ih))) (L := 22) (by kernel_rfl) ?_ (fun hHeld => ?_)
        · (((try dsimp only); (repeat' apply And.intro) <;> (first | (simp only [World.cell?_drew, *]; done) | (simp (disch := (first | omega | (simp; omega))) only [cell_far, cell_old, World.cell?_drew, *]; done))))
        refine takeL (i := 0) (oi := ?_) (v := ?_) ?_ (by kernel_rfl) (by kernel_rfl) (by kernel_rfl) (by kernel_rfl) ?_ (Or.inl ⟨?_, ?_⟩) (by assumption) ?_
        rotate_left 2
        · (simp only [List.getElem?_toArray, List.getElem?_cons_succ, List.getElem?_cons_zero]; rfl)
        · exact fun _ _ _ h => h
        · rfl
        · (intro w hSw; (try dsimp only at hSw); go_simp; (try with_reducible rfl))
        try simp only [Act.put, List.setIfInBounds_toArray, List.set_cons_zero, List.set_cons_succ]
        refine takeL (i := 1) (oi := ?_) (v := ?_) ?_ (by kernel_rfl) (by kernel_rfl) (by kernel_rfl) (by kernel_rfl) ?_ (Or.inl ⟨?_, ?_⟩) (by assumption) ?_
        rotate_left 2
        · (simp only [List.getElem?_toArray, List.getElem?_cons_succ, List.getElem?_cons_zero]; rfl)
        · exact fun _ _ _ h => h
        · rfl
        · (intro w hSw; (try dsimp only at hSw); go_simp; (try with_reducible rfl))
        try simp only [Act.put, List.setIfInBounds_toArray, List.set_cons_zero, List.set_cons_succ]
        refine takeL (i := 2) (oi := ?_) (v := ?_) ?_ (by kernel_rfl) (by kernel_rfl) (by kernel_rfl) (by kernel_rfl) ?_ (Or.inl ⟨?_, ?_⟩) (by assumption) ?_
        rotate_left 2
        · (simp only [List.getElem?_toArray, List.getElem?_cons_succ, List.getElem?_cons_zero]; rfl)
        · exact fun _ _ _ h => h
        · rfl
        · (intro w hSw; (try dsimp only at hSw); go_simp; (try with_reducible rfl))
        try simp only [Act.put, List.setIfInBounds_toArray, List.set_cons_zero, List.set_cons_succ]
        refine takeL (i := 4) (oi := ?_) (v := ?_) ?_ (by kernel_rfl) (by kernel_rfl) (by kernel_rfl) (by kernel_rfl) ?_ (Or.inl ⟨?_, ?_⟩) (by assumption) ?_
        rotate_left 2
        · (simp only [List.getElem?_toArray, List.getElem?_cons_succ, List.getElem?_cons_zero]; rfl)
        · exact fun _ _ _ h => h
        · rfl
        · (intro w hSw; (try dsimp only at hSw); go_simp; (try with_reducible rfl))
        try simp only [Act.put, List.setIfInBounds_toArray, List.set_cons_zero, List.set_cons_succ]
        refine takeL (i := 5) (oi := ?_) (v := ?_) ?_ (by kernel_rfl) (by kernel_rfl) (by kernel_rfl) (by kernel_rfl) ?_ (Or.inl ⟨?_, ?_⟩) (by assumption) ?_
        rotate_left 2
        · (simp only [List.getElem?_toArray, List.getElem?_cons_succ, List.getElem?_cons_zero]; rfl)
        · exact fun _ _ _ h => h
        · rfl
        · (intro w hSw; (try dsimp only at hSw); go_simp; (try with_reducible rfl))
        try simp only [Act.put, List.setIfInBounds_toArray, List.set_cons_zero, List.set_cons_succ]
        refine takeL (i := 6) (oi := ?_) (v := ?_) ?_ (by kernel_rfl) (by kernel_rfl) (by kernel_rfl) (by kernel_rfl) ?_ (Or.inl ⟨?_, ?_⟩) (by assumption) ?_
        rotate_left 2
        · (simp only [List.getElem?_toArray, List.getElem?_cons_succ, List.getElem?_cons_zero]; rfl)
        · exact fun _ _ _ h => h
        · rfl
        · (intro w hSw; (try dsimp only at hSw); go_simp; (try with_reducible rfl))
        try simp only [Act.put, List.setIfInBounds_toArray, List.set_cons_zero, List.set_cons_succ]
        refine readyL (rs := [3]) (by kernel_rfl) (by simp) ?_
        refine AllReadyL.cons (o := ?_) ?_ (fun K hK => ?_) AllReadyL.none_
        rotate_left
        · (simp only [List.getElem?_toArray, List.getElem?_cons_succ, List.getElem?_cons_zero]; rfl)
        go_simp
        go_at_call 32
        ((with_reducible refine (implHasPoint ix iy iw ih px py _).mono ?_))
        rw [E.out, hpa, hpb]; rintro e w5 ⟨rfl, hbw5⟩
        have bw5 : Below v4.heap.size v4 w5 := later (by go_grown) hbw5
        have Bw5 : Below w.heap.size w w5 := Bv4.trans (bw5.mono bsv4)
        have sw5 := hbw5.size
        (try simp at sw5)
        have tw5 := bw5.size
        have bsw5 := Bw5.size
        have XAw5 := Lib.hid (XAv4.out.step bw5)
        clear XAv4 qAv4_0 qAv4_1 qAv4_2 qAv4_3 qAv4_4
        have XBw5 := Lib.hid (XBv4.out.step bw5)
        clear XBv4 qBv4_0 qBv4_1 qBv4_2 qBv4_3 qBv4_4
        have XRw5 := Lib.hid (XRv4.out.step bw5)
        clear XRv4 qRv4_0 qRv4_1 qRv4_2 qRv4_3 qRv4_4
        have ⟨qAw5_0, qAw5_1, qAw5_2, qAw5_3, qAw5_4⟩ := XAw5.out.open4
        have ⟨qBw5_0, qBw5_1, qBw5_2, qBw5_3, qBw5_4⟩ := XBw5.out.open4
        have ⟨qRw5_0, qRw5_1, qRw5_2, qRw5_3, qRw5_4⟩ := XRw5.out.open4
        refine hK.out _ _ ?_ (fun hHeld => ?_)
        · (((try dsimp only); (repeat' apply And.intro) <;> (first | (simp only [World.cell?_drew, *]; done) | (simp (disch := (first | omega | (simp; omega))) only [cell_far, cell_old, World.cell?_drew, *]; done))))
        clear hK K
        try simp only [Act.put, List.setIfInBounds_toArray, List.set_cons_zero, List.set_cons_succ]
        refine readyL (rs := [7]) (by kernel_rfl) (by simp) ?_
        refine AllReadyL.cons (o := ?_) ?_ (fun K hK => ?_) AllReadyL.none_
        rotate_left
        · (simp only [List.getElem?_toArray, List.getElem?_cons_succ, List.getElem?_cons_zero]; rfl)
        go_simp
        go_at_call 32
        ((with_reducible refine (implHasPoint rx ry rw rh px py _).mono ?_))
        rw [hpa]; rintro e w6 ⟨rfl, hbw6⟩
        have bw6 : Below w5.heap.size w5 w6 := later (by go_grown) hbw6
        have Bw6 : Below w.heap.size w w6 := Bw5.trans (bw6.mono bsw5)
        have sw6 := hbw6.size
        (try simp at sw6)
        have tw6 := bw6.size
        have bsw6 := Bw6.size
        have XAw6 := Lib.hid (XAw5.out.step bw6)
        clear XAw5 qAw5_0 qAw5_1 qAw5_2 qAw5_3 qAw5_4
        have XBw6 := Lib.hid (XBw5.out.step bw6)
        clear XBw5 qBw5_0 qBw5_1 qBw5_2 qBw5_3 qBw5_4
        have XRw6 := Lib.hid (XRw5.out.step bw6)
        clear XRw5 qRw5_0 qRw5_1 qRw5_2 qRw5_3 qRw5_4
        have ⟨qAw6_0, qAw6_1, qAw6_2, qAw6_3, qAw6_4⟩ := XAw6.out.open4
        have ⟨qBw6_0, qBw6_1, qBw6_2, qBw6_3, qBw6_4⟩ := XBw6.out.open4
        have ⟨qRw6_0, qRw6_1, qRw6_2, qRw6_3, qRw6_4⟩ := XRw6.out.open4
        refine hK.out _ _ ?_ (fun hHeld => ?_)
        · (((try dsimp only); (repeat' apply And.intro) <;> (first | (simp only [World.cell?_drew, *]; done) | (simp (disch := (first | omega | (simp; omega))) only [cell_far, cell_old, World.cell?_drew, *]; done))))
        clear hK K
        try simp only [Act.put, List.setIfInBounds_toArray, List.set_cons_zero, List.set_cons_succ]
        refine takeL (i := 8) (oi := ?_) (v := ?_) ?_ (by kernel_rfl) (by kernel_rfl) (by kernel_rfl) (by kernel_rfl) ?_ (Or.inl ⟨?_, ?_⟩) (by assumption) ?_
        rotate_left 2
        · (simp only [List.getElem?_toArray, List.getElem?_cons_succ, List.getElem?_cons_zero]; rfl)
        · exact fun _ _ _ h => h
        · rfl
        · (intro w hSw; (try dsimp only at hSw); go_simp; (try with_reducible rfl))
        try simp only [Act.put, List.setIfInBounds_toArray, List.set_cons_zero, List.set_cons_succ]
        refine takeL (i := 9) (oi := ?_) (v := ?_) ?_ (by kernel_rfl) (by kernel_rfl) (by kernel_rfl) (by kernel_rfl) ?_ (Or.inl ⟨?_, ?_⟩) (by assumption) ?_
        rotate_left 2
        · (simp only [List.getElem?_toArray, List.getElem?_cons_succ, List.getElem?_cons_zero]; rfl)
        · exact fun _ _ _ h => h
        · rfl
        · (intro w hSw; (try dsimp only at hSw); go_simp; (try with_reducible rfl))
        try simp only [Act.put, List.setIfInBounds_toArray, List.set_cons_zero, List.set_cons_succ]
        refine takeL (i := 10) (oi := ?_) (v := ?_) ?_ (by kernel_rfl) (by kernel_rfl) (by kernel_rfl) (by kernel_rfl) ?_ (Or.inl ⟨?_, ?_⟩) (by assumption) ?_
        rotate_left 2
        · (simp only [List.getElem?_toArray, List.getElem?_cons_succ, List.getElem?_cons_zero]; rfl)
        · exact fun _ _ _ h => h
        · rfl
        · (intro w hSw; (try dsimp only at hSw); go_simp; (try with_reducible rfl))
        try simp only [Act.put, List.setIfInBounds_toArray, List.set_cons_zero, List.set_cons_succ]
        refine takeL (i := 11) (oi := ?_) (v := ?_) ?_ (by kernel_rfl) (by kernel_rfl) (by kernel_rfl) (by kernel_rfl) ?_ (Or.inl ⟨?_, ?_⟩) (by assumption) ?_
        rotate_left 2
        · (simp only [List.getElem?_toArray, List.getElem?_cons_succ, List.getElem?_cons_zero]; rfl)
        · exact fun _ _ _ h => h
        · rfl
        · (intro w hSw; (try dsimp only at hSw); go_simp; (try with_reducible rfl))
        try simp only [Act.put, List.setIfInBounds_toArray, List.set_cons_zero, List.set_cons_succ]
        refine readyL (rs := [12]) (by kernel_rfl) (by simp) ?_
        refine AllReadyL.cons (o := ?_) ?_ (fun K hK => ?_) AllReadyL.none_
        rotate_left
        · (simp only [List.getElem?_toArray, List.getElem?_cons_succ, List.getElem?_cons_zero]; rfl)
        go_simp
        go_at_call 32
        ((with_reducible refine (implHasPoint sx sy sw sh px py _).mono ?_))
        rw [hpb]; rintro e w7 ⟨rfl, hbw7⟩
        have bw7 : Below w6.heap.size w6 w7 := later (by go_grown) hbw7
        have Bw7 : Below w.heap.size w w7 := Bw6.trans (bw7.mono bsw6)
        have sw7 := hbw7.size
        (try simp at sw7)
        have tw7 := bw7.size
        have bsw7 := Bw7.size
        have XAw7 := Lib.hid (XAw6.out.step bw7)
        clear XAw6 qAw6_0 qAw6_1 qAw6_2 qAw6_3 qAw6_4
        have XBw7 := Lib.hid (XBw6.out.step bw7)
        clear XBw6 qBw6_0 qBw6_1 qBw6_2 qBw6_3 qBw6_4
        have XRw7 := Lib.hid (XRw6.out.step bw7)
        clear XRw6 qRw6_0 qRw6_1 qRw6_2 qRw6_3 qRw6_4
        have ⟨qAw7_0, qAw7_1, qAw7_2, qAw7_3, qAw7_4⟩ := XAw7.out.open4
        have ⟨qBw7_0, qBw7_1, qBw7_2, qBw7_3, qBw7_4⟩ := XBw7.out.open4
        have ⟨qRw7_0, qRw7_1, qRw7_2, qRw7_3, qRw7_4⟩ := XRw7.out.open4
        refine hK.out _ _ ?_ (fun hHeld => ?_)
        · (((try dsimp only); (repeat' apply And.intro) <;> (first | (simp only [World.cell?_drew, *]; done) | (simp (disch := (first | omega | (simp; omega))) only [cell_far, cell_old, World.cell?_drew, *]; done))))
        clear hK K
        try simp only [Act.put, List.setIfInBounds_toArray, List.set_cons_zero, List.set_cons_succ]
        refine takeL (i := 13) (oi := ?_) (v := ?_) ?_ (by kernel_rfl) (by kernel_rfl) (by kernel_rfl) (by kernel_rfl) ?_ (Or.inl ⟨?_, ?_⟩) (by assumption) ?_
        rotate_left 2
        · (simp only [List.getElem?_toArray, List.getElem?_cons_succ, List.getElem?_cons_zero]; rfl)
        · exact fun _ _ _ h => h
        · rfl
        · (intro w hSw; (try dsimp only at hSw); go_simp; (try with_reducible rfl))
        try simp only [Act.put, List.setIfInBounds_toArray, List.set_cons_zero, List.set_cons_succ]
        refine takeL (i := 14) (oi := ?_) (v := ?_) ?_ (by kernel_rfl) (by kernel_rfl) (by kernel_rfl) (by kernel_rfl) ?_ (Or.inl ⟨?_, ?_⟩) (by assumption) ?_
        rotate_left 2
        · (simp only [List.getElem?_toArray, List.getElem?_cons_succ, List.getElem?_cons_zero]; rfl)
        · exact fun _ _ _ h => h
        · rfl
        · (intro w hSw; (try dsimp only at hSw); go_simp; (try with_reducible rfl))
        try simp only [Act.put, List.setIfInBounds_toArray, List.set_cons_zero, List.set_cons_succ]
        refine takeL (i := 15) (oi := ?_) (v := ?_) ?_ (by kernel_rfl) (by kernel_rfl) (by kernel_rfl) (by kernel_rfl) ?_ (Or.inl ⟨?_, ?_⟩) (by assumption) ?_
        rotate_left 2
        · (simp only [List.getElem?_toArray, List.getElem?_cons_succ, List.getElem?_cons_zero]; rfl)
        · exact fun _ _ _ h => h
        · rfl
        · (intro w hSw; (try dsimp only at hSw); go_simp; (try with_reducible rfl))
        try simp only [Act.put, List.setIfInBounds_toArray, List.set_cons_zero, List.set_cons_succ]
        refine takeL (i := 16) (oi := ?_) (v := ?_) ?_ (by kernel_rfl) (by kernel_rfl) (by kernel_rfl) (by kernel_rfl) ?_ (Or.inl ⟨?_, ?_⟩) (by assumption) ?_
        rotate_left 2
        · (simp only [List.getElem?_toArray, List.getElem?_cons_succ, List.getElem?_cons_zero]; rfl)
        · exact fun _ _ _ h => h
        · rfl
        · (intro w hSw; (try dsimp only at hSw); go_simp; (try with_reducible rfl))
        try simp only [Act.put, List.setIfInBounds_toArray, List.set_cons_zero, List.set_cons_succ]
        refine takeL (i := 17) (oi := ?_) (v := ?_) ?_ (by kernel_rfl) (by kernel_rfl) (by kernel_rfl) (by kernel_rfl) ?_ (Or.inl ⟨?_, ?_⟩) (by assumption) ?_
        rotate_left 2
        · (simp only [List.getElem?_toArray, List.getElem?_cons_succ, List.getElem?_cons_zero]; rfl)
        · exact fun _ _ _ h => h
        · rfl
        · (intro w hSw; (try dsimp only at hSw); go_simp; (try with_reducible rfl))
        try simp only [Act.put, List.setIfInBounds_toArray, List.set_cons_zero, List.set_cons_succ]
        refine takeL (i := 18) (oi := ?_) (v := ?_) ?_ (by kernel_rfl) (by kernel_rfl) (by kernel_rfl) (by kernel_rfl) ?_ (Or.inl ⟨?_, ?_⟩) (by assumption) ?_
        rotate_left 2
        · (simp only [List.getElem?_toArray, List.getElem?_cons_succ, List.getElem?_cons_zero]; rfl)
        · exact fun _ _ _ h => h
        · rfl
        · (intro w hSw; (try dsimp only at hSw); go_simp; (try with_reducible rfl))
        try simp only [Act.put, List.setIfInBounds_toArray, List.set_cons_zero, List.set_cons_succ]
        refine readyL (rs := [19]) (by kernel_rfl) (by simp) ?_
        refine AllReadyL.cons (o := ?_) ?_ (fun K hK => ?_) AllReadyL.none_
        rotate_left
        · (simp only [List.getElem?_toArray, List.getElem?_cons_succ, List.getElem?_cons_zero]; rfl)
        go_simp
        go_at_call 26
        ((with_reducible refine (implIntersect sx sy sw sh rx ry rw rh _).mono ?_))
        rw [HI2.out]; rintro e w8 ⟨rfl, hbw8⟩
        have bw8 : Below w7.heap.size w7 w8 := later (by go_grown) hbw8
        have Bw8 : Below w.heap.size w w8 := Bw7.trans (bw8.mono bsw7)
        have sw8 := hbw8.size
        (try simp at sw8)
        have tw8 := bw8.size
        have bsw8 := Bw8.size
        have XAw8 := Lib.hid (XAw7.out.step bw8)
        clear XAw7 qAw7_0 qAw7_1 qAw7_2 qAw7_3 qAw7_4
        have XBw8 := Lib.hid (XBw7.out.step bw8)
        clear XBw7 qBw7_0 qBw7_1 qBw7_2 qBw7_3 qBw7_4
        have XRw8 := Lib.hid (XRw7.out.step bw8)
        clear XRw7 qRw7_0 qRw7_1 qRw7_2 qRw7_3 qRw7_4
        have ⟨qAw8_0, qAw8_1, qAw8_2, qAw8_3, qAw8_4⟩ := XAw8.out.open4
        have ⟨qBw8_0, qBw8_1, qBw8_2, qBw8_3, qBw8_4⟩ := XBw8.out.open4
        have ⟨qRw8_0, qRw8_1, qRw8_2, qRw8_3, qRw8_4⟩ := XRw8.out.open4
        refine hK.out _ _ ?_ (fun hHeld => ?_)
        · (((try dsimp only); (repeat' apply And.intro) <;> (first | (simp only [World.cell?_drew, *]; done) | (simp (disch := (first | omega | (simp; omega))) only [cell_far, cell_old, World.cell?_drew, *]; done))))
        clear hK K
        try simp only [Act.put, List.setIfInBounds_toArray, List.set_cons_zero, List.set_cons_succ]
        refine takeL (i := 20) (oi := ?_) (v := ?_) ?_ (by kernel_rfl) (by kernel_rfl) (by kernel_rfl) (by kernel_rfl) ?_ (Or.inl ⟨?_, ?_⟩) (by assumption) ?_
        rotate_left 2
        · (simp only [List.getElem?_toArray, List.getElem?_cons_succ, List.getElem?_cons_zero]; rfl)
        · exact fun _ _ _ h => h
        · rfl
        · (intro w hSw; (try dsimp only at hSw); go_simp; (try with_reducible rfl))
        try simp only [Act.put, List.setIfInBounds_toArray, List.set_cons_zero, List.set_cons_succ]
        refine takeL (i := 21) (oi := ?_) (v := ?_) ?_ (by kernel_rfl) (by kernel_rfl) (by kernel_rfl) (by kernel_rfl) ?_ (Or.inl ⟨?_, ?_⟩) (by assumption) ?_
        rotate_left 2
        · (simp only [List.getElem?_toArray, List.getElem?_cons_succ, List.getElem?_cons_zero]; rfl)
        · exact fun _ _ _ h => h
        · rfl
        · (intro w hSw; (try dsimp only at hSw); go_simp; (try with_reducible rfl))
        try simp only [Act.put, List.setIfInBounds_toArray, List.set_cons_zero, List.set_cons_succ]
        refine doneL (by kernel_rfl) ?_ _
        go_wp2_with fail
        go_meet
        case rel => exact ⟨rfl, (((bw5.trans (bw6.mono (by omega))).trans (bw7.mono (by omega))).trans (bw8.mono (by omega)))⟩
    case false =>
      refine regionL (S := (fun w' => w'.cell? ⟨w1.heap.size, 0, none⟩ = some (.int .i64 rx) ∧ w'.cell? ⟨w1.heap.size, 1, none⟩ = some (.int .i64 ry) ∧ w'.cell? ⟨w1.heap.size, 2, none⟩ = some (.int .i64 rw) ∧ w'.cell? ⟨w1.heap.size, 3, none⟩ = some (.int .i64 rh) ∧ w'.cell? ⟨w1.heap.size + 1, 0, none⟩ = some (.int .i64 sx) ∧ w'.cell? ⟨w1.heap.size + 1, 1, none⟩ = some (.int .i64 sy) ∧ w'.cell? ⟨w1.heap.size + 1, 2, none⟩ = some (.int .i64 sw) ∧ w'.cell? ⟨w1.heap.size + 1, 3, none⟩ = some (.int .i64 sh) ∧ w'.cell? ⟨w2.heap.size, 0, none⟩ = some (.int .i64 ix) ∧ w'.cell? ⟨w2.heap.size, 1, none⟩ = some (.int .i64 iy) ∧ w'.cell? ⟨w2.heap.size, 2, none⟩ = some (.int .i64 iw) ∧ w'.cell? ⟨w2.heap.size, 3, none⟩ = some (.int .i64 ih))) (L := 22) (by kernel_rfl) ?_ (fun hHeld => ?_)
      · (((try dsimp only); (repeat' apply And.intro) <;> (first | (simp only [World.cell?_drew, *]; done) | (simp (disch := (first | omega | (simp; omega))) only [cell_far, cell_old, World.cell?_drew, *]; done))))
      refine takeL (i := 0) (oi := ?_) (v := ?_) ?_ (by kernel_rfl) (by kernel_rfl) (by kernel_rfl) (by kernel_rfl) ?_ (Or.inl ⟨?_, ?_⟩) (by assumption) ?_
      rotate_left 2
      · (simp only [List.getElem?_toArray, List.getElem?_cons_succ, List.getElem?_cons_zero]; rfl)
      · exact fun _ _ _ h => h
      · rfl
      · (intro w hSw; (try dsimp only at hSw); go_simp; (try with_reducible rfl))
      try simp only [Act.put, List.setIfInBounds_toArray, List.set_cons_zero, List.set_cons_succ]
      refine takeL (i := 1) (oi := ?_) (v := ?_) ?_ (by kernel_rfl) (by kernel_rfl) (by kernel_rfl) (by kernel_rfl) ?_ (Or.inl ⟨?_, ?_⟩) (by assumption) ?_
      rotate_left 2
      · (simp only [List.getElem?_toArray, List.getElem?_cons_succ, List.getElem?_cons_zero]; rfl)
      · exact fun _ _ _ h => h
      · rfl
      · (intro w hSw; (try dsimp only at hSw); go_simp; (try with_reducible rfl))
      try simp only [Act.put, List.setIfInBounds_toArray, List.set_cons_zero, List.set_cons_succ]
      refine takeL (i := 2) (oi := ?_) (v := ?_) ?_ (by kernel_rfl) (by kernel_rfl) (by kernel_rfl) (by kernel_rfl) ?_ (Or.inl ⟨?_, ?_⟩) (by assumption) ?_
      rotate_left 2
      · (simp only [List.getElem?_toArray, List.getElem?_cons_succ, List.getElem?_cons_zero]; rfl)
      · exact fun _ _ _ h => h
      · rfl
      · (intro w hSw; (try dsimp only at hSw); go_simp; (try with_reducible rfl))
      try simp only [Act.put, List.setIfInBounds_toArray, List.set_cons_zero, List.set_cons_succ]
      refine takeL (i := 4) (oi := ?_) (v := ?_) ?_ (by kernel_rfl) (by kernel_rfl) (by kernel_rfl) (by kernel_rfl) ?_ (Or.inl ⟨?_, ?_⟩) (by assumption) ?_
      rotate_left 2
      · (simp only [List.getElem?_toArray, List.getElem?_cons_succ, List.getElem?_cons_zero]; rfl)
      · exact fun _ _ _ h => h
      · rfl
      · (intro w hSw; (try dsimp only at hSw); go_simp; (try with_reducible rfl))
      try simp only [Act.put, List.setIfInBounds_toArray, List.set_cons_zero, List.set_cons_succ]
      refine takeL (i := 5) (oi := ?_) (v := ?_) ?_ (by kernel_rfl) (by kernel_rfl) (by kernel_rfl) (by kernel_rfl) ?_ (Or.inl ⟨?_, ?_⟩) (by assumption) ?_
      rotate_left 2
      · (simp only [List.getElem?_toArray, List.getElem?_cons_succ, List.getElem?_cons_zero]; rfl)
      · exact fun _ _ _ h => h
      · rfl
      · (intro w hSw; (try dsimp only at hSw); go_simp; (try with_reducible rfl))
      try simp only [Act.put, List.setIfInBounds_toArray, List.set_cons_zero, List.set_cons_succ]
      refine takeL (i := 6) (oi := ?_) (v := ?_) ?_ (by kernel_rfl) (by kernel_rfl) (by kernel_rfl) (by kernel_rfl) ?_ (Or.inl ⟨?_, ?_⟩) (by assumption) ?_
      rotate_left 2
      · (simp only [List.getElem?_toArray, List.getElem?_cons_succ, List.getElem?_cons_zero]; rfl)
      · exact fun _ _ _ h => h
      · rfl
      · (intro w hSw; (try dsimp only at hSw); go_simp; (try with_reducible rfl))
      try simp only [Act.put, List.setIfInBounds_toArray, List.set_cons_zero, List.set_cons_succ]
      refine readyL (rs := [3]) (by kernel_rfl) (by simp) ?_
      refine AllReadyL.cons (o := ?_) ?_ (fun K hK => ?_) AllReadyL.none_
      rotate_left
      · (simp only [List.getElem?_toArray, List.getElem?_cons_succ, List.getElem?_cons_zero]; rfl)
      go_simp
      go_at_call 32
      ((with_reducible refine (implHasPoint ix iy iw ih px py _).mono ?_))
      rw [E.out, hpa, Bool.false_and]; rintro e w5 ⟨rfl, hbw5⟩
      have bw5 : Below v4.heap.size v4 w5 := later (by go_grown) hbw5
      have Bw5 : Below w.heap.size w w5 := Bv4.trans (bw5.mono bsv4)
      have sw5 := hbw5.size
      (try simp at sw5)
      have tw5 := bw5.size
      have bsw5 := Bw5.size
      have XAw5 := Lib.hid (XAv4.out.step bw5)
      clear XAv4 qAv4_0 qAv4_1 qAv4_2 qAv4_3 qAv4_4
      have XBw5 := Lib.hid (XBv4.out.step bw5)
      clear XBv4 qBv4_0 qBv4_1 qBv4_2 qBv4_3 qBv4_4
      have XRw5 := Lib.hid (XRv4.out.step bw5)
      clear XRv4 qRv4_0 qRv4_1 qRv4_2 qRv4_3 qRv4_4
      have ⟨qAw5_0, qAw5_1, qAw5_2, qAw5_3, qAw5_4⟩ := XAw5.out.open4
      have ⟨qBw5_0, qBw5_1, qBw5_2, qBw5_3, qBw5_4⟩ := XBw5.out.open4
      have ⟨qRw5_0, qRw5_1, qRw5_2, qRw5_3, qRw5_4⟩ := XRw5.out.open4
      refine hK.out _ _ ?_ (fun hHeld => ?_)
      · (((try dsimp only); (repeat' apply And.intro) <;> (first | (simp only [World.cell?_drew, *]; done) | (simp (disch := (first | omega | (simp; omega))) only [cell_far, cell_old, World.cell?_drew, *]; done))))
      clear hK K
      try simp only [Act.put, List.setIfInBounds_toArray, List.set_cons_zero, List.set_cons_succ]
      refine readyL (rs := [7]) (by kernel_rfl) (by simp) ?_
      refine AllReadyL.cons (o := ?_) ?_ (fun K hK => ?_) AllReadyL.none_
      rotate_left
      · (simp only [List.getElem?_toArray, List.getElem?_cons_succ, List.getElem?_cons_zero]; rfl)
      go_simp
      go_at_call 32
      ((with_reducible refine (implHasPoint rx ry rw rh px py _).mono ?_))
      rw [hpa]; rintro e w6 ⟨rfl, hbw6⟩
      have bw6 : Below w5.heap.size w5 w6 := later (by go_grown) hbw6
      have Bw6 : Below w.heap.size w w6 := Bw5.trans (bw6.mono bsw5)
      have sw6 := hbw6.size
      (try simp at sw6)
      have tw6 := bw6.size
      have bsw6 := Bw6.size
      have XAw6 := Lib.hid (XAw5.out.step bw6)
      clear XAw5 qAw5_0 qAw5_1 qAw5_2 qAw5_3 qAw5_4
      have XBw6 := Lib.hid (XBw5.out.step bw6)
      clear XBw5 qBw5_0 qBw5_1 qBw5_2 qBw5_3 qBw5_4
      have XRw6 := Lib.hid (XRw5.out.step bw6)
      clear XRw5 qRw5_0 qRw5_1 qRw5_2 qRw5_3 qRw5_4
      have ⟨qAw6_0, qAw6_1, qAw6_2, qAw6_3, qAw6_4⟩ := XAw6.out.open4
      have ⟨qBw6_0, qBw6_1, qBw6_2, qBw6_3, qBw6_4⟩ := XBw6.out.open4
      have ⟨qRw6_0, qRw6_1, qRw6_2, qRw6_3, qRw6_4⟩ := XRw6.out.open4
      refine hK.out _ _ ?_ (fun hHeld => ?_)
      · (((try dsimp only); (repeat' apply And.intro) <;> (first | (simp only [World.cell?_drew, *]; done) | (simp (disch := (first | omega | (simp; omega))) only [cell_far, cell_old, World.cell?_drew, *]; done))))
      clear hK K
      try simp only [Act.put, List.setIfInBounds_toArray, List.set_cons_zero, List.set_cons_succ]
      refine takeL (i := 8) (oi := ?_) (v := ?_) ?_ (by kernel_rfl) (by kernel_rfl) (by kernel_rfl) (by kernel_rfl) ?_ (Or.inl ⟨?_, ?_⟩) (by assumption) ?_
      rotate_left 2
      · (simp only [List.getElem?_toArray, List.getElem?_cons_succ, List.getElem?_cons_zero]; rfl)
      · exact fun _ _ _ h => h
      · rfl
      · (intro w hSw; (try dsimp only at hSw); go_simp; (try with_reducible rfl))
      try simp only [Act.put, List.setIfInBounds_toArray, List.set_cons_zero, List.set_cons_succ]
      refine takeL (i := 9) (oi := ?_) (v := undef) ?_ (by kernel_rfl) (by kernel_rfl) (by kernel_rfl) (by kernel_rfl) ?_ ?_ (by assumption) ?_
      rotate_left
      · (simp only [List.getElem?_toArray, List.getElem?_cons_succ, List.getElem?_cons_zero]; rfl)
      · exact fun _ _ _ h => h
      · exact Or.inr ⟨by rfl, rfl⟩
      try simp only [Act.put, List.setIfInBounds_toArray, List.set_cons_zero, List.set_cons_succ]
      refine takeL (i := 10) (oi := ?_) (v := undef) ?_ (by kernel_rfl) (by kernel_rfl) (by kernel_rfl) (by kernel_rfl) ?_ ?_ (by assumption) ?_
      rotate_left
      · (simp only [List.getElem?_toArray, List.getElem?_cons_succ, List.getElem?_cons_zero]; rfl)
      · exact fun _ _ _ h => h
      · exact Or.inr ⟨by rfl, rfl⟩
      try simp only [Act.put, List.setIfInBounds_toArray, List.set_cons_zero, List.set_cons_succ]
      refine takeL (i := 11) (oi := ?_) (v := undef) ?_ (by kernel_rfl) (by kernel_rfl) (by kernel_rfl) (by kernel_rfl) ?_ ?_ (by assumption) ?_
      rotate_left
      · (simp only [List.getElem?_toArray, List.getElem?_cons_succ, List.getElem?_cons_zero]; rfl)
      · exact fun _ _ _ h => h
      · exact Or.inr ⟨by rfl, rfl⟩
      try simp only [Act.put, List.setIfInBounds_toArray, List.set_cons_zero, List.set_cons_succ]
      refine takeL (i := 12) (oi := ?_) (v := undef) ?_ (by kernel_rfl) (by kernel_rfl) (by kernel_rfl) (by kernel_rfl) ?_ ?_ (by assumption) ?_
      rotate_left
      · (simp only [List.getElem?_toArray, List.getElem?_cons_succ, List.getElem?_cons_zero]; rfl)
      · exact fun _ _ _ h => h
      · exact Or.inr ⟨by rfl, rfl⟩
      try simp only [Act.put, List.setIfInBounds_toArray, List.set_cons_zero, List.set_cons_succ]
      refine takeL (i := 13) (oi := ?_) (v := ?_) ?_ (by kernel_rfl) (by kernel_rfl) (by kernel_rfl) (by kernel_rfl) ?_ (Or.inl ⟨?_, ?_⟩) (by assumption) ?_
      rotate_left 2
      · (simp only [List.getElem?_toArray, List.getElem?_cons_succ, List.getElem?_cons_zero]; rfl)
      · exact fun _ _ _ h => h
      · rfl
      · (intro w hSw; (try dsimp only at hSw); go_simp; (try with_reducible rfl))
      try simp only [Act.put, List.setIfInBounds_toArray, List.set_cons_zero, List.set_cons_succ]
      refine takeL (i := 14) (oi := ?_) (v := ?_) ?_ (by kernel_rfl) (by kernel_rfl) (by kernel_rfl) (by kernel_rfl) ?_ (Or.inl ⟨?_, ?_⟩) (by assumption) ?_
      rotate_left 2
      · (simp only [List.getElem?_toArray, List.getElem?_cons_succ, List.getElem?_cons_zero]; rfl)
      · exact fun _ _ _ h => h
      · rfl
      · (intro w hSw; (try dsimp only at hSw); go_simp; (try with_reducible rfl))
      try simp only [Act.put, List.setIfInBounds_toArray, List.set_cons_zero, List.set_cons_succ]
      refine takeL (i := 15) (oi := ?_) (v := ?_) ?_ (by kernel_rfl) (by kernel_rfl) (by kernel_rfl) (by kernel_rfl) ?_ (Or.inl ⟨?_, ?_⟩) (by assumption) ?_
      rotate_left 2
      · (simp only [List.getElem?_toArray, List.getElem?_cons_succ, List.getElem?_cons_zero]; rfl)
      · exact fun _ _ _ h => h
      · rfl
      · (intro w hSw; (try dsimp only at hSw); go_simp; (try with_reducible rfl))
      try simp only [Act.put, List.setIfInBounds_toArray, List.set_cons_zero, List.set_cons_succ]
      refine takeL (i := 16) (oi := ?_) (v := ?_) ?_ (by kernel_rfl) (by kernel_rfl) (by kernel_rfl) (by kernel_rfl) ?_ (Or.inl ⟨?_, ?_⟩) (by assumption) ?_
      rotate_left 2
      · (simp only [List.getElem?_toArray, List.getElem?_cons_succ, List.getElem?_cons_zero]; rfl)
      · exact fun _ _ _ h => h
      · rfl
      · (intro w hSw; (try dsimp only at hSw); go_simp; (try with_reducible rfl))
      try simp only [Act.put, List.setIfInBounds_toArray, List.set_cons_zero, List.set_cons_succ]
      refine takeL (i := 17) (oi := ?_) (v := ?_) ?_ (by kernel_rfl) (by kernel_rfl) (by kernel_rfl) (by kernel_rfl) ?_ (Or.inl ⟨?_, ?_⟩) (by assumption) ?_
      rotate_left 2
      · (simp only [List.getElem?_toArray, List.getElem?_cons_succ, List.getElem?_cons_zero]; rfl)
      · exact fun _ _ _ h => h
      · rfl
      · (intro w hSw; (try dsimp only at hSw); go_simp; (try with_reducible rfl))
      try simp only [Act.put, List.setIfInBounds_toArray, List.set_cons_zero, List.set_cons_succ]
      refine takeL (i := 18) (oi := ?_) (v := ?_) ?_ (by kernel_rfl) (by kernel_rfl) (by kernel_rfl) (by kernel_rfl) ?_ (Or.inl ⟨?_, ?_⟩) (by assumption) ?_
      rotate_left 2
      · (simp only [List.getElem?_toArray, List.getElem?_cons_succ, List.getElem?_cons_zero]; rfl)
      · exact fun _ _ _ h => h
      · rfl
      · (intro w hSw; (try dsimp only at hSw); go_simp; (try with_reducible rfl))
      try simp only [Act.put, List.setIfInBounds_toArray, List.set_cons_zero, List.set_cons_succ]
      refine readyL (rs := [19]) (by kernel_rfl) (by simp) ?_
      refine AllReadyL.cons (o := ?_) ?_ (fun K hK => ?_) AllReadyL.none_
      rotate_left
      · (simp only [List.getElem?_toArray, List.getElem?_cons_succ, List.getElem?_cons_zero]; rfl)
      go_simp
      go_at_call 26
      ((with_reducible refine (implIntersect sx sy sw sh rx ry rw rh _).mono ?_))
      rw [HI2.out]; rintro e w7 ⟨rfl, hbw7⟩
      have bw7 : Below w6.heap.size w6 w7 := later (by go_grown) hbw7
      have Bw7 : Below w.heap.size w w7 := Bw6.trans (bw7.mono bsw6)
      have sw7 := hbw7.size
      (try simp at sw7)
      have tw7 := bw7.size
      have bsw7 := Bw7.size
      have XAw7 := Lib.hid (XAw6.out.step bw7)
      clear XAw6 qAw6_0 qAw6_1 qAw6_2 qAw6_3 qAw6_4
      have XBw7 := Lib.hid (XBw6.out.step bw7)
      clear XBw6 qBw6_0 qBw6_1 qBw6_2 qBw6_3 qBw6_4
      have XRw7 := Lib.hid (XRw6.out.step bw7)
      clear XRw6 qRw6_0 qRw6_1 qRw6_2 qRw6_3 qRw6_4
      have ⟨qAw7_0, qAw7_1, qAw7_2, qAw7_3, qAw7_4⟩ := XAw7.out.open4
      have ⟨qBw7_0, qBw7_1, qBw7_2, qBw7_3, qBw7_4⟩ := XBw7.out.open4
      have ⟨qRw7_0, qRw7_1, qRw7_2, qRw7_3, qRw7_4⟩ := XRw7.out.open4
      refine hK.out _ _ ?_ (fun hHeld => ?_)
      · (((try dsimp only); (repeat' apply And.intro) <;> (first | (simp only [World.cell?_drew, *]; done) | (simp (disch := (first | omega | (simp; omega))) only [cell_far, cell_old, World.cell?_drew, *]; done))))
      clear hK K
      try simp only [Act.put, List.setIfInBounds_toArray, List.set_cons_zero, List.set_cons_succ]
      refine takeL (i := 20) (oi := ?_) (v := ?_) ?_ (by kernel_rfl) (by kernel_rfl) (by kernel_rfl) (by kernel_rfl) ?_ (Or.inl ⟨?_, ?_⟩) (by assumption) ?_
      rotate_left 2
      · (simp only [List.getElem?_toArray, List.getElem?_cons_succ, List.getElem?_cons_zero]; rfl)
      · exact fun _ _ _ h => h
      · rfl
      · (intro w hSw; (try dsimp only at hSw); go_simp; (try with_reducible rfl))
      try simp only [Act.put, List.setIfInBounds_toArray, List.set_cons_zero, List.set_cons_succ]
      refine takeL (i := 21) (oi := ?_) (v := ?_) ?_ (by kernel_rfl) (by kernel_rfl) (by kernel_rfl) (by kernel_rfl) ?_ (Or.inl ⟨?_, ?_⟩) (by assumption) ?_
      rotate_left 2
      · (simp only [List.getElem?_toArray, List.getElem?_cons_succ, List.getElem?_cons_zero]; rfl)
      · exact fun _ _ _ h => h
      · rfl
      · (intro w hSw; (try dsimp only at hSw); go_simp; (try with_reducible rfl))
      try simp only [Act.put, List.setIfInBounds_toArray, List.set_cons_zero, List.set_cons_succ]
      refine doneL (by kernel_rfl) ?_ _
      go_wp2_with fail
      go_meet
      case rel => exact ⟨rfl, ((bw5.trans (bw6.mono (by omega))).trans (bw7.mono (by omega)))⟩
  case rest =>
    obtain ⟨rfl, bv5⟩ := hcut
    obtain ⟨v5, rfl⟩ : ∃ v5 : World, v5 = wc := ⟨_, rfl⟩
    have Bv5 : Below w.heap.size w v5 := Bv4.trans (bv5.mono bsv4)
    have tv5 := bv5.size
    have bsv5 := Bv5.size
    have XAv5 := Lib.hid (XAv4.out.step bv5)
    clear XAv4 qAv4_0 qAv4_1 qAv4_2 qAv4_3 qAv4_4
    have ⟨qAv5_0, qAv5_1, qAv5_2, qAv5_3, qAv5_4⟩ := XAv5.out.open4
    have XBv5 := Lib.hid (XBv4.out.step bv5)
    clear XBv4 qBv4_0 qBv4_1 qBv4_2 qBv4_3 qBv4_4
    have ⟨qBv5_0, qBv5_1, qBv5_2, qBv5_3, qBv5_4⟩ := XBv5.out.open4
    have XRv5 := Lib.hid (XRv4.out.step bv5)
    clear XRv4 qRv4_0 qRv4_1 qRv4_2 qRv4_3 qRv4_4
    have ⟨qRv5_0, qRv5_1, qRv5_2, qRv5_3, qRv5_4⟩ := XRv5.out.open4
    have XUv5 := Lib.hid (XUv4.out.step bv5)
    clear XUv4 qUv4_0 qUv4_1 qUv4_2 qUv4_3 qUv4_4
    have ⟨qUv5_0, qUv5_1, qUv5_2, qUv5_3, qUv5_4⟩ := XUv5.out.open4
    go_wp2_with fail
    refine (implMoved rx ry rw rh 7 (-3) _).mono ?_
    rw [HM1.out]
    rintro e w6 ⟨rfl, hbw6⟩
    have bw6 : Below v5.heap.size v5 w6 := later (by go_grown) hbw6
    have Bw6 : Below w.heap.size w w6 := Bv5.trans (bw6.mono bsv5)
    have sw6 := hbw6.size
    (try simp at sw6)
    have tw6 := bw6.size
    have bsw6 := Bw6.size
    have XAw6 := Lib.hid (XAv5.out.step bw6)
    clear XAv5 qAv5_0 qAv5_1 qAv5_2 qAv5_3 qAv5_4
    have XBw6 := Lib.hid (XBv5.out.step bw6)
    clear XBv5 qBv5_0 qBv5_1 qBv5_2 qBv5_3 qBv5_4
    have XRw6 := Lib.hid (XRv5.out.step bw6)
    clear XRv5 qRv5_0 qRv5_1 qRv5_2 qRv5_3 qRv5_4
    have XUw6 := Lib.hid (XUv5.out.step bw6)
    clear XUv5 qUv5_0 qUv5_1 qUv5_2 qUv5_3 qUv5_4
    have ⟨qAw6_0, qAw6_1, qAw6_2, qAw6_3, qAw6_4⟩ := XAw6.out.open4
    have ⟨qBw6_0, qBw6_1, qBw6_2, qBw6_3, qBw6_4⟩ := XBw6.out.open4
    have ⟨qRw6_0, qRw6_1, qRw6_2, qRw6_3, qRw6_4⟩ := XRw6.out.open4
    have ⟨qUw6_0, qUw6_1, qUw6_2, qUw6_3, qUw6_4⟩ := XUw6.out.open4
    go_wp2_with fail
    refine (implMoved mx my rw rh (-7) 3 _).mono ?_
    rw [HM2.out]
    rintro e w7 ⟨rfl, hbw7⟩
    have bw7 : Below w6.heap.size w6 w7 := later (by go_grown) hbw7
    have Bw7 : Below w.heap.size w w7 := Bw6.trans (bw7.mono bsw6)
    have sw7 := hbw7.size
    (try simp at sw7)
    have tw7 := bw7.size
    have bsw7 := Bw7.size
    have XAw7 := Lib.hid (XAw6.out.step bw7)
    clear XAw6 qAw6_0 qAw6_1 qAw6_2 qAw6_3 qAw6_4
    have XBw7 := Lib.hid (XBw6.out.step bw7)
    clear XBw6 qBw6_0 qBw6_1 qBw6_2 qBw6_3 qBw6_4
    have XRw7 := Lib.hid (XRw6.out.step bw7)
    clear XRw6 qRw6_0 qRw6_1 qRw6_2 qRw6_3 qRw6_4
    have XUw7 := Lib.hid (XUw6.out.step bw7)
    clear XUw6 qUw6_0 qUw6_1 qUw6_2 qUw6_3 qUw6_4
    have ⟨qAw7_0, qAw7_1, qAw7_2, qAw7_3, qAw7_4⟩ := XAw7.out.open4
    have ⟨qBw7_0, qBw7_1, qBw7_2, qBw7_3, qBw7_4⟩ := XBw7.out.open4
    have ⟨qRw7_0, qRw7_1, qRw7_2, qRw7_3, qRw7_4⟩ := XRw7.out.open4
    have ⟨qUw7_0, qUw7_1, qUw7_2, qUw7_3, qUw7_4⟩ := XUw7.out.open4
    have HE := fun (w : World) => eql_rect w rx ry rw rh rx ry rw rh
    have HG := guard_rect
    go_wp2_with fail
    refine (implCovers rx ry rw rh ix iy iw ih _).mono ?_
    rw [CV1.out]
    rintro e w8 ⟨rfl, hbw8⟩
    have bw8 : Below w7.heap.size w7 w8 := later (by go_grown) hbw8
    have Bw8 : Below w.heap.size w w8 := Bw7.trans (bw8.mono bsw7)
    have sw8 := hbw8.size
    (try simp at sw8)
    have tw8 := bw8.size
    have bsw8 := Bw8.size
    have XAw8 := Lib.hid (XAw7.out.step bw8)
    clear XAw7 qAw7_0 qAw7_1 qAw7_2 qAw7_3 qAw7_4
    have XBw8 := Lib.hid (XBw7.out.step bw8)
    clear XBw7 qBw7_0 qBw7_1 qBw7_2 qBw7_3 qBw7_4
    have XRw8 := Lib.hid (XRw7.out.step bw8)
    clear XRw7 qRw7_0 qRw7_1 qRw7_2 qRw7_3 qRw7_4
    have XUw8 := Lib.hid (XUw7.out.step bw8)
    clear XUw7 qUw7_0 qUw7_1 qUw7_2 qUw7_3 qUw7_4
    have XMw8 := Lib.hid (Box.of4 hbw8 (w7.heap.size) (by first | omega | (simp; done) | (simp; omega)) (v0 := .int .i64 rx)  (v1 := .int .i64 ry)  (v2 := .int .i64 rw)  (v3 := .int .i64 rh) (by simp [go_sem]) (by simp [go_sem]) (by simp [go_sem]) (by simp [go_sem]))
    have ⟨qAw8_0, qAw8_1, qAw8_2, qAw8_3, qAw8_4⟩ := XAw8.out.open4
    have ⟨qBw8_0, qBw8_1, qBw8_2, qBw8_3, qBw8_4⟩ := XBw8.out.open4
    have ⟨qRw8_0, qRw8_1, qRw8_2, qRw8_3, qRw8_4⟩ := XRw8.out.open4
    have ⟨qUw8_0, qUw8_1, qUw8_2, qUw8_3, qUw8_4⟩ := XUw8.out.open4
    have ⟨qMw8_0, qMw8_1, qMw8_2, qMw8_3, qMw8_4⟩ := XMw8.out.open4
    go_wp2_with fail
    refine (implCovers ux uy uw uh rx ry rw rh _).mono ?_
    rw [CV2.out]
    rintro e w9 ⟨rfl, hbw9⟩
    have bw9 : Below w8.heap.size w8 w9 := later (by go_grown) hbw9
    have Bw9 : Below w.heap.size w w9 := Bw8.trans (bw9.mono bsw8)
    have sw9 := hbw9.size
    (try simp at sw9)
    have tw9 := bw9.size
    have bsw9 := Bw9.size
    have XAw9 := Lib.hid (XAw8.out.step bw9)
    clear XAw8 qAw8_0 qAw8_1 qAw8_2 qAw8_3 qAw8_4
    have XBw9 := Lib.hid (XBw8.out.step bw9)
    clear XBw8 qBw8_0 qBw8_1 qBw8_2 qBw8_3 qBw8_4
    have XRw9 := Lib.hid (XRw8.out.step bw9)
    clear XRw8 qRw8_0 qRw8_1 qRw8_2 qRw8_3 qRw8_4
    have XUw9 := Lib.hid (XUw8.out.step bw9)
    clear XUw8 qUw8_0 qUw8_1 qUw8_2 qUw8_3 qUw8_4
    have XMw9 := Lib.hid (XMw8.out.step bw9)
    clear XMw8 qMw8_0 qMw8_1 qMw8_2 qMw8_3 qMw8_4
    have ⟨qAw9_0, qAw9_1, qAw9_2, qAw9_3, qAw9_4⟩ := XAw9.out.open4
    have ⟨qBw9_0, qBw9_1, qBw9_2, qBw9_3, qBw9_4⟩ := XBw9.out.open4
    have ⟨qRw9_0, qRw9_1, qRw9_2, qRw9_3, qRw9_4⟩ := XRw9.out.open4
    have ⟨qUw9_0, qUw9_1, qUw9_2, qUw9_3, qUw9_4⟩ := XUw9.out.open4
    have ⟨qMw9_0, qMw9_1, qMw9_2, qMw9_3, qMw9_4⟩ := XMw9.out.open4
    go_wp2_with fail
    refine (implCovers ux uy uw uh sx sy sw sh _).mono ?_
    rw [CV3.out]
    rintro e w10 ⟨rfl, hbw10⟩
    have bw10 : Below w9.heap.size w9 w10 := later (by go_grown) hbw10
    have Bw10 : Below w.heap.size w w10 := Bw9.trans (bw10.mono bsw9)
    have sw10 := hbw10.size
    (try simp at sw10)
    have tw10 := bw10.size
    have bsw10 := Bw10.size
    have XAw10 := Lib.hid (XAw9.out.step bw10)
    clear XAw9 qAw9_0 qAw9_1 qAw9_2 qAw9_3 qAw9_4
    have XBw10 := Lib.hid (XBw9.out.step bw10)
    clear XBw9 qBw9_0 qBw9_1 qBw9_2 qBw9_3 qBw9_4
    have XRw10 := Lib.hid (XRw9.out.step bw10)
    clear XRw9 qRw9_0 qRw9_1 qRw9_2 qRw9_3 qRw9_4
    have XUw10 := Lib.hid (XUw9.out.step bw10)
    clear XUw9 qUw9_0 qUw9_1 qUw9_2 qUw9_3 qUw9_4
    have XMw10 := Lib.hid (XMw9.out.step bw10)
    clear XMw9 qMw9_0 qMw9_1 qMw9_2 qMw9_3 qMw9_4
    have ⟨qAw10_0, qAw10_1, qAw10_2, qAw10_3, qAw10_4⟩ := XAw10.out.open4
    have ⟨qBw10_0, qBw10_1, qBw10_2, qBw10_3, qBw10_4⟩ := XBw10.out.open4
    have ⟨qRw10_0, qRw10_1, qRw10_2, qRw10_3, qRw10_4⟩ := XRw10.out.open4
    have ⟨qUw10_0, qUw10_1, qUw10_2, qUw10_3, qUw10_4⟩ := XUw10.out.open4
    have ⟨qMw10_0, qMw10_1, qMw10_2, qMw10_3, qMw10_4⟩ := XMw10.out.open4
    go_wp2_with fail
    refine (implRectOk ux uy uw uh _).mono ?_
    rw [OK2.out]
    rintro e w11 ⟨rfl, hbw11⟩
    have bw11 : Below w10.heap.size w10 w11 := later (by go_grown) hbw11
    have Bw11 : Below w.heap.size w w11 := Bw10.trans (bw11.mono bsw10)
    have sw11 := hbw11.size
    (try simp at sw11)
    have tw11 := bw11.size
    have bsw11 := Bw11.size
    have XAw11 := Lib.hid (XAw10.out.step bw11)
    clear XAw10 qAw10_0 qAw10_1 qAw10_2 qAw10_3 qAw10_4
    have XBw11 := Lib.hid (XBw10.out.step bw11)
    clear XBw10 qBw10_0 qBw10_1 qBw10_2 qBw10_3 qBw10_4
    have XRw11 := Lib.hid (XRw10.out.step bw11)
    clear XRw10 qRw10_0 qRw10_1 qRw10_2 qRw10_3 qRw10_4
    have XUw11 := Lib.hid (XUw10.out.step bw11)
    clear XUw10 qUw10_0 qUw10_1 qUw10_2 qUw10_3 qUw10_4
    have XMw11 := Lib.hid (XMw10.out.step bw11)
    clear XMw10 qMw10_0 qMw10_1 qMw10_2 qMw10_3 qMw10_4
    have ⟨qAw11_0, qAw11_1, qAw11_2, qAw11_3, qAw11_4⟩ := XAw11.out.open4
    have ⟨qBw11_0, qBw11_1, qBw11_2, qBw11_3, qBw11_4⟩ := XBw11.out.open4
    have ⟨qRw11_0, qRw11_1, qRw11_2, qRw11_3, qRw11_4⟩ := XRw11.out.open4
    have ⟨qUw11_0, qUw11_1, qUw11_2, qUw11_3, qUw11_4⟩ := XUw11.out.open4
    have ⟨qMw11_0, qMw11_1, qMw11_2, qMw11_3, qMw11_4⟩ := XMw11.out.open4
    go_wp2_with fail
    go_ret
    exact ⟨rfl, by go_grown⟩
end Go.Proofs.Ytadghhajegpaiaa
