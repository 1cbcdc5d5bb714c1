/- The law FnScaling: it returns true. -/
import Derived.Test.YtbgemonpkncldaaWalks4
import Derived.Test.YtbgemonpkncldaaDrI
import Derived.Test.YtbgemonpkncldaaMap3
import Derived.Test.YtbgemonpkncldaaScaleLaw
import Derived.Test.YtbgemonpkncldaaSame
import Derived.Test.YtbgemonpkncldaaAt
import Derived.Test.YtbgemonpkncldaaOri
import Derived.Deep.RegionHeld3
import Derived.Deep.DeepCutAuto
namespace Go.Proofs.Ytbgemonpkncldaa
open Go.RowKit
set_option linter.unusedVariables false
set_option linter.unusedSimpArgs false
theorem isRow_len1 {w : World} {a : Option Addr} {len cap : Nat} {zs : List Int} (hr : IsRow .u8 w a len cap zs) : len ≤ 9223372036854775807 := by
  rcases hr with ⟨rfl, rfl, rfl, rfl⟩ | ⟨x, rfl, hl, hm, _⟩
  · omega
  · unfold maxLen at hm; omega
set_option maxHeartbeats 8000000 in
set_option maxRecDepth 100000 in
theorem walkFnScaling (a : Option Addr) (len cap : Nat) (z : List Int) (w : World) (hr : IsRow .u8 w a len cap z) : Calls Try.prog 10 #[.slice a len cap] w fun e w' => e = .returned (.bool true) ∧ Below w.heap.size w w' := by
  have hl := isRow_len1 hr
  by_cases hbig : 1048576 < len
  · go_enter Try.func10, Try.ntmps10
    go_wp2_with fail
    refine (big_any _ _ _ _ hl).mono ?_
    rintro e w' ⟨rfl, rfl⟩
    go_wp2_with fail
    go_ret
    exact ⟨rfl, Below.refl _ _⟩
  have HR := Lib.hid hr
  clear hr
  have Bw : Below w.heap.size w w := Below.refl _ _
  have bsw := Bw.size
  go_enter Try.func10, Try.ntmps10
  go_wp2_with fail
  refine (big_any _ _ _ _ hl).mono ?_
  rintro e w' ⟨rfl, rfl⟩
  go_wp2_with fail
  refine (drawImage a len cap z _ HR.out (by omega)).mono ?_
  rintro e w1 ⟨X, Y, ci, Ai, zs, rfl, ok, X8, Y8, Ow1, hbw1⟩
  have bw1 : Below w.heap.size w w1 := later (by go_grown) hbw1
  have Bw1 : Below w.heap.size w w1 := Bw.trans (bw1.mono bsw)
  have sw1 := hbw1.size
  (try simp at sw1)
  have tw1 := bw1.size
  have bsw1 := Bw1.size
  have OK := Lib.hid ok
  obtain ⟨X1, Y1, hzl⟩ := Pl.ok_dims ok
  have HZL := Lib.hid hzl
  clear ok hzl
  have Iiw1 : Hid (Ints w1 (w.heap.size) w1.heap.size _ _) := Lib.hid Ow1
  clear Ow1
  go_wp2_with fail
  refine (at_any _ _ _ z _ _ (isRow_keep HR.out fun x hx hc => by have := isRow_lt HR.out x hx hc; exact ((by go_grown) : Below w.heap.size w _).block _ this) (by omega) (by omega)).mono ?_
  rintro e w' ⟨n, n0, n1, rfl, rfl⟩
  go_upto_region 5 with fail
  have bv2 : Below w1.heap.size w1 (w1.alloc (.cells #[.int .i64 X, .int .i64 Y, .slice Ai zs.length ci] 27)) := by go_grown
  have sv2 : w1.heap.size + 1 ≤ (w1.alloc (.cells #[.int .i64 X, .int .i64 Y, .slice Ai zs.length ci] 27)).heap.size := by simp
  have rv2 : (w1.alloc (.cells #[.int .i64 X, .int .i64 Y, .slice Ai zs.length ci] 27)).heap.size ≤ w1.heap.size + 1 := by simp
  have Ziv2 : Box (w1.alloc (.cells #[.int .i64 X, .int .i64 Y, .slice Ai zs.length ci] 27)) (w1.heap.size) [.int .i64 X, .int .i64 Y, .slice Ai zs.length ci] := Box.of3 (Below.refl _ _) _ (by first | (simp; done) | (simp; omega)) (by simp [go_sem]) (by simp [go_sem]) (by simp [go_sem])
  generalize (w1.alloc (.cells #[.int .i64 X, .int .i64 Y, .slice Ai zs.length ci] 27)) = v2 at *
  have Bv2 : Below w.heap.size w v2 := Bw1.trans (bv2.mono bsw1)
  have tv2 := bv2.size
  have bsv2 := Bv2.size
  have Xiv2 := Lib.hid Ziv2
  clear Ziv2
  have ⟨qiv2_0, qiv2_1, qiv2_2, qiv2_3⟩ := Xiv2.out.open3
  have Iiv2 := Lib.hid (Iiw1.out.step bv2)
  clear Iiw1
  have ⟨m0, m1⟩ : 0 ≤ n % 2 ∧ n % 2 < 2 := ⟨Int.emod_nonneg _ (by omega), Int.emod_lt_of_pos _ (by omega)⟩
  obtain ⟨k, hk⟩ := Int.eq_ofNat_of_zero_le (show 0 ≤ 1 + n % 2 by omega)
  have k12 : k = 1 ∨ k = 2 := by omega
  rw [hk]
  clear hk m0 m1 n0 n1
  obtain ⟨ds, S1, S2⟩ := Pl.scaled_back OK.out X8 Y8 k12
  have SS := Lib.hid (Pl.scaled_same OK.out X8 Y8)
  have ST := Lib.hid (Pl.tile_same OK.out X8 Y8)
  have SL := Pl.sp_last (X := (X : Int)) (k := (k : Int)) ⟨by omega, by omega⟩ (by omega)
  have SM : ∀ m : Int, 0 ≤ m → m < (k : Int) * X → 0 ≤ Pl.scalePoint X ((k : Int) * X) m ∧ Pl.scalePoint X ((k : Int) * X) m ≤ X - 1 := fun m h1 h2 => Pl.sp_mono ⟨by omega, by omega⟩ (by omega) ⟨h1, h2⟩
  have eX : (k : Int) * (X : Int) = ((k * X : Nat) : Int) := (Int.natCast_mul k X).symm
  have eY : (k : Int) * (Y : Int) = ((k * Y : Nat) : Int) := (Int.natCast_mul k Y).symm
  have bX : 1 ≤ k * X ∧ k * X ≤ 16 := by rcases k12 with rfl | rfl <;> omega
  have bY : 1 ≤ k * Y ∧ k * Y ≤ 16 := by rcases k12 with rfl | rfl <;> omega
  rw [eX, eY] at S1 S2
  rw [eX] at SL
  simp only [eX] at SM
  generalize k * X = PX at *
  generalize k * Y = PY at *
  obtain ⟨bX1, bX2⟩ := bX
  obtain ⟨bY1, bY2⟩ := bY
  have HS1 := Lib.hid S1
  have HS2 := Lib.hid S2
  have HSL := Lib.hid SL
  have HSM := Lib.hid SM
  clear S1 S2 SL SM
  go_wp2_with fail
  refine (implScaled _ _ _ _ _ (w.heap.size) (w1.heap.size) zs _ _ _ (Iiv2.out.step (by go_grown))).mono ?_
  rw [HS1.out]
  rintro e w3 ⟨Aw3, cw3, rfl, Ow3, hbw3⟩
  dsimp only at Ow3 ⊢
  have bw3 : Below v2.heap.size v2 w3 := later (by go_grown) hbw3
  have Bw3 : Below w.heap.size w w3 := Bv2.trans (bw3.mono bsv2)
  have sw3 := hbw3.size
  (try simp at sw3)
  have tw3 := bw3.size
  have bsw3 := Bw3.size
  have Xiw3 := Lib.hid (Xiv2.out.step bw3)
  clear Xiv2 qiv2_0 qiv2_1 qiv2_2 qiv2_3
  have ⟨qiw3_0, qiw3_1, qiw3_2, qiw3_3⟩ := Xiw3.out.open3
  have Iiw3 := Lib.hid (Iiv2.out.step bw3)
  clear Iiv2
  have Ixw3 : Hid (Ints w3 (v2.heap.size) w3.heap.size (.slice Aw3 ds.length cw3) ds) := Own.mono Ow3 (by (try simp); (try omega)) (Nat.le_refl _) (Nat.le_refl _)
  clear Ow3
  go_wp2_with fail
  refine (implScaled _ _ _ _ _ (v2.heap.size) (w3.heap.size) ds _ _ _ (Ixw3.out.step (by go_grown))).mono ?_
  rw [HS2.out]
  rintro e w4 ⟨Aw4, cw4, rfl, Ow4, hbw4⟩
  dsimp only at Ow4 ⊢
  have bw4 : Below w3.heap.size w3 w4 := later (by go_grown) hbw4
  have Bw4 : Below w.heap.size w w4 := Bw3.trans (bw4.mono bsw3)
  have sw4 := hbw4.size
  (try simp at sw4)
  have tw4 := bw4.size
  have bsw4 := Bw4.size
  have Xiw4 := Lib.hid (Xiw3.out.step bw4)
  clear Xiw3 qiw3_0 qiw3_1 qiw3_2 qiw3_3
  have Xxw4 := Lib.hid (Box.of3 hbw4 (w3.heap.size) (by first | omega | (simp; done) | (simp; omega)) (v0 := .int .i64 PX)  (v1 := .int .i64 PY)  (v2 := .slice Aw3 ds.length cw3) (by simp [go_sem]) (by simp [go_sem]) (by simp [go_sem]))
  have ⟨qiw4_0, qiw4_1, qiw4_2, qiw4_3⟩ := Xiw4.out.open3
  have ⟨qxw4_0, qxw4_1, qxw4_2, qxw4_3⟩ := Xxw4.out.open3
  have Iiw4 := Lib.hid (Iiw3.out.step bw4)
  clear Iiw3
  have Ixw4 := Lib.hid (Ixw3.out.step bw4)
  clear Ixw3
  have Iyw4 : Hid (Ints w4 (w3.heap.size + 1) w4.heap.size (.slice Aw4 zs.length cw4) zs) := Own.mono Ow4 (by (try simp); (try omega)) (Nat.le_refl _) (Nat.le_refl _)
  clear Ow4
  go_upto_region 7 with fail
  have bv5 : Below w4.heap.size w4 (w4.alloc (.cells #[.int .i64 X, .int .i64 Y, .slice Aw4 zs.length cw4] 27)) := by go_grown
  have sv5 : w4.heap.size + 1 ≤ (w4.alloc (.cells #[.int .i64 X, .int .i64 Y, .slice Aw4 zs.length cw4] 27)).heap.size := by simp
  have rv5 : (w4.alloc (.cells #[.int .i64 X, .int .i64 Y, .slice Aw4 zs.length cw4] 27)).heap.size ≤ w4.heap.size + 1 := by simp
  have Zyv5 : Box (w4.alloc (.cells #[.int .i64 X, .int .i64 Y, .slice Aw4 zs.length cw4] 27)) (w4.heap.size) [.int .i64 X, .int .i64 Y, .slice Aw4 zs.length cw4] := Box.of3 (Below.refl _ _) _ (by first | (simp; done) | (simp; omega)) (by simp [go_sem]) (by simp [go_sem]) (by simp [go_sem])
  generalize (w4.alloc (.cells #[.int .i64 X, .int .i64 Y, .slice Aw4 zs.length cw4] 27)) = v5 at *
  have Bv5 : Below w.heap.size w v5 := Bw4.trans (bv5.mono bsw4)
  have tv5 := bv5.size
  have bsv5 := Bv5.size
  have Xiv5 := Lib.hid (Xiw4.out.step bv5)
  clear Xiw4 qiw4_0 qiw4_1 qiw4_2 qiw4_3
  have Xxv5 := Lib.hid (Xxw4.out.step bv5)
  clear Xxw4 qxw4_0 qxw4_1 qxw4_2 qxw4_3
  have Xyv5 := Lib.hid Zyv5
  clear Zyv5
  have ⟨qiv5_0, qiv5_1, qiv5_2, qiv5_3⟩ := Xiv5.out.open3
  have ⟨qxv5_0, qxv5_1, qxv5_2, qxv5_3⟩ := Xxv5.out.open3
  have ⟨qyv5_0, qyv5_1, qyv5_2, qyv5_3⟩ := Xyv5.out.open3
  have Iiv5 := Lib.hid (Iiw4.out.step bv5)
  clear Iiw4
  have Ixv5 := Lib.hid (Ixw4.out.step bv5)
  clear Ixw4
  have Iyv5 := Lib.hid (Iyw4.out.step bv5)
  clear Iyw4
  have wP : IntKind.i64.wrap (PX : Int) = (PX : Int) := IntWalk.i64_in _ ⟨by omega, by omega⟩
  refine regionL (S := (fun w' => w'.cell? ⟨w1.heap.size, 0, none⟩ = some (.int .i64 X) ∧ w'.cell? ⟨w1.heap.size, 1, none⟩ = some (.int .i64 Y) ∧ w'.cell? ⟨w1.heap.size, 2, none⟩ = some (.slice Ai zs.length ci))) (L := 15) (by kernel_rfl) ?_ (fun hHeld => ?_)
  · (((try dsimp only); (repeat' apply And.intro) <;> (first | (simp only [World.cell?_drew, *]; done) | (simp (disch := (first | omega | (simp; omega))) only [cell_far, cell_old, World.cell?_drew, *]; done))))
  refine takeL (i := 0) (oi := ?_) (v := ?_) ?_ (by kernel_rfl) (by kernel_rfl) (by kernel_rfl) (by kernel_rfl) ?_ (Or.inl ⟨?_, ?_⟩) (by assumption) ?_
  rotate_left 2
  · (simp only [List.getElem?_toArray, List.getElem?_cons_succ, List.getElem?_cons_zero]; rfl)
  · exact fun _ _ _ h => h
  · rfl
  · (intro w hSw; (try dsimp only at hSw); go_simp; (try with_reducible rfl))
  try simp only [Act.put, List.setIfInBounds_toArray, List.set_cons_zero, List.set_cons_succ]
  refine takeL (i := 1) (oi := ?_) (v := ?_) ?_ (by kernel_rfl) (by kernel_rfl) (by kernel_rfl) (by kernel_rfl) ?_ (Or.inl ⟨?_, ?_⟩) (by assumption) ?_
  rotate_left 2
  · (simp only [List.getElem?_toArray, List.getElem?_cons_succ, List.getElem?_cons_zero]; rfl)
  · exact fun _ _ _ h => h
  · rfl
  · (intro w hSw; (try dsimp only at hSw); go_simp; (try with_reducible rfl))
  try simp only [Act.put, List.setIfInBounds_toArray, List.set_cons_zero, List.set_cons_succ]
  refine takeL (i := 2) (oi := ?_) (v := ?_) ?_ (by kernel_rfl) (by kernel_rfl) (by kernel_rfl) (by kernel_rfl) ?_ (Or.inl ⟨?_, ?_⟩) (by assumption) ?_
  rotate_left 2
  · (simp only [List.getElem?_toArray, List.getElem?_cons_succ, List.getElem?_cons_zero]; rfl)
  · exact fun _ _ _ h => h
  · rfl
  · (intro w hSw; (try dsimp only at hSw); go_simp; (try with_reducible rfl))
  try simp only [Act.put, List.setIfInBounds_toArray, List.set_cons_zero, List.set_cons_succ]
  refine takeL (i := 3) (oi := ?_) (v := ?_) ?_ (by kernel_rfl) (by kernel_rfl) (by kernel_rfl) (by kernel_rfl) ?_ (Or.inl ⟨?_, ?_⟩) (by assumption) ?_
  rotate_left 2
  · (simp only [List.getElem?_toArray, List.getElem?_cons_succ, List.getElem?_cons_zero]; rfl)
  · exact fun _ _ _ h => h
  · rfl
  · (intro w hSw; (try dsimp only at hSw); go_simp; (try with_reducible rfl))
  try simp only [Act.put, List.setIfInBounds_toArray, List.set_cons_zero, List.set_cons_succ]
  refine takeL (i := 4) (oi := ?_) (v := ?_) ?_ (by kernel_rfl) (by kernel_rfl) (by kernel_rfl) (by kernel_rfl) ?_ (Or.inl ⟨?_, ?_⟩) (by assumption) ?_
  rotate_left 2
  · (simp only [List.getElem?_toArray, List.getElem?_cons_succ, List.getElem?_cons_zero]; rfl)
  · exact fun _ _ _ h => h
  · rfl
  · (intro w hSw; (try dsimp only at hSw); go_simp; (try with_reducible rfl))
  try simp only [Act.put, List.setIfInBounds_toArray, List.set_cons_zero, List.set_cons_succ]
  refine takeL (i := 5) (oi := ?_) (v := ?_) ?_ (by kernel_rfl) (by kernel_rfl) (by kernel_rfl) (by kernel_rfl) ?_ (Or.inl ⟨?_, ?_⟩) (by assumption) ?_
  rotate_left 2
  · (simp only [List.getElem?_toArray, List.getElem?_cons_succ, List.getElem?_cons_zero]; rfl)
  · exact fun _ _ _ h => h
  · rfl
  · (intro w hSw; (try dsimp only at hSw); go_simp; (try with_reducible rfl))
  try simp only [Act.put, List.setIfInBounds_toArray, List.set_cons_zero, List.set_cons_succ]
  refine takeL (i := 6) (oi := ?_) (v := ?_) ?_ (by kernel_rfl) (by kernel_rfl) (by kernel_rfl) (by kernel_rfl) ?_ (Or.inl ⟨?_, ?_⟩) (by assumption) ?_
  rotate_left 2
  · (simp only [List.getElem?_toArray, List.getElem?_cons_succ, List.getElem?_cons_zero]; rfl)
  · exact fun _ _ _ h => h
  · rfl
  · (intro w hSw; (try dsimp only at hSw); go_simp; (try with_reducible rfl))
  try simp only [Act.put, List.setIfInBounds_toArray, List.set_cons_zero, List.set_cons_succ]
  refine takeL (i := 8) (oi := ?_) (v := ?_) ?_ (by kernel_rfl) (by kernel_rfl) (by kernel_rfl) (by kernel_rfl) ?_ (Or.inl ⟨?_, ?_⟩) (by assumption) ?_
  rotate_left 2
  · (simp only [List.getElem?_toArray, List.getElem?_cons_succ, List.getElem?_cons_zero]; rfl)
  · exact fun _ _ _ h => h
  · rfl
  · (intro w hSw; (try dsimp only at hSw); go_simp; (try with_reducible rfl))
  try simp only [Act.put, List.setIfInBounds_toArray, List.set_cons_zero, List.set_cons_succ]
  refine takeL (i := 9) (oi := ?_) (v := ?_) ?_ (by kernel_rfl) (by kernel_rfl) (by kernel_rfl) (by kernel_rfl) ?_ (Or.inl ⟨?_, ?_⟩) (by assumption) ?_
  rotate_left 2
  · (simp only [List.getElem?_toArray, List.getElem?_cons_succ, List.getElem?_cons_zero]; rfl)
  · exact fun _ _ _ h => h
  · rfl
  · (intro w hSw; (try dsimp only at hSw); go_simp; (try with_reducible rfl))
  try simp only [Act.put, List.setIfInBounds_toArray, List.set_cons_zero, List.set_cons_succ]
  refine takeL (i := 10) (oi := ?_) (v := ?_) ?_ (by kernel_rfl) (by kernel_rfl) (by kernel_rfl) (by kernel_rfl) ?_ (Or.inl ⟨?_, ?_⟩) (by assumption) ?_
  rotate_left 2
  · (simp only [List.getElem?_toArray, List.getElem?_cons_succ, List.getElem?_cons_zero]; rfl)
  · exact fun _ _ _ h => h
  · rfl
  · (intro w hSw; (try dsimp only at hSw); go_simp; (try with_reducible rfl))
  try simp only [Act.put, List.setIfInBounds_toArray, List.set_cons_zero, List.set_cons_succ]
  refine takeL (i := 11) (oi := ?_) (v := ?_) ?_ (by kernel_rfl) (by kernel_rfl) (by kernel_rfl) (by kernel_rfl) ?_ (Or.inl ⟨?_, ?_⟩) (by assumption) ?_
  rotate_left 2
  · (simp only [List.getElem?_toArray, List.getElem?_cons_succ, List.getElem?_cons_zero]; rfl)
  · exact fun _ _ _ h => h
  · rfl
  · (intro w hSw; (try dsimp only at hSw); go_simp; (try with_reducible rfl))
  try simp only [Act.put, List.setIfInBounds_toArray, List.set_cons_zero, List.set_cons_succ]
  refine readyL (rs := [7]) (by kernel_rfl) (by simp) ?_
  refine AllReadyL.cons (o := ?_) ?_ (fun K hK => ?_) AllReadyL.none_
  rotate_left
  · (simp only [List.getElem?_toArray, List.getElem?_cons_succ, List.getElem?_cons_zero]; rfl)
  go_simp
  go_at_call 36
  ((with_reducible refine (at_any _ _ _ z _ _ (isRow_keep HR.out fun x hx hc => by have := isRow_lt HR.out x hx hc; exact (Bv5.drew).block _ this) (by omega) (by omega)).mono ?_))
  rintro e w' ⟨n2, n20, n21, rfl, rfl⟩
  have hP0 : ((PX : Int) == 0) = false := by simp; omega
  have nP0 : ¬ (PX : Int) = 0 := by omega
  have nPN : ¬ PX = 0 := by omega
  have q0 : 0 ≤ n2 % (PX : Int) := Int.emod_nonneg _ (by omega)
  have q1 : n2 % (PX : Int) < PX := Int.emod_lt_of_pos _ (by omega)
  have r1 : n2.tmod (PX : Int) = n2 % (PX : Int) := Int.tmod_eq_emod_of_nonneg (by omega)
  have u1 : IntKind.i64.wrap (n2 % (PX : Int)) = n2 % (PX : Int) := IntWalk.i64_in _ ⟨by omega, by omega⟩
  refine hK.out _ _ ?_ (fun hHeld => ?_)
  · (((try dsimp only); (repeat' apply And.intro) <;> (first | (simp only [World.cell?_drew, *]; done) | (simp (disch := (first | omega | (simp; omega))) only [cell_far, cell_old, World.cell?_drew, *]; done))))
  clear hK K
  try simp only [Act.put, List.setIfInBounds_toArray, List.set_cons_zero, List.set_cons_succ]
  refine takeL (i := 12) (oi := ?_) (v := ?_) ?_ (by kernel_rfl) (by kernel_rfl) (by kernel_rfl) (by kernel_rfl) ?_ (Or.inl ⟨?_, ?_⟩) (by assumption) ?_
  rotate_left 2
  · (simp only [List.getElem?_toArray, List.getElem?_cons_succ, List.getElem?_cons_zero]; rfl)
  · exact fun _ _ _ h => h
  · rfl
  · (intro w hSw; (try dsimp only at hSw); go_simp; (try with_reducible rfl))
  try simp only [Act.put, List.setIfInBounds_toArray, List.set_cons_zero, List.set_cons_succ]
  refine readyL (rs := [13]) (by kernel_rfl) (by simp) ?_
  refine AllReadyL.cons (o := ?_) ?_ (fun K hK => ?_) AllReadyL.none_
  rotate_left
  · (simp only [List.getElem?_toArray, List.getElem?_cons_succ, List.getElem?_cons_zero]; rfl)
  go_simp
  go_at_call 37
  ((with_reducible refine (implScalePoint X PX (n2 % (PX : Int)) _).mono ?_))
  rintro e w' ⟨rfl, rfl⟩
  refine hK.out _ _ ?_ (fun hHeld => ?_)
  · (((try dsimp only); (repeat' apply And.intro) <;> (first | (simp only [World.cell?_drew, *]; done) | (simp (disch := (first | omega | (simp; omega))) only [cell_far, cell_old, World.cell?_drew, *]; done))))
  clear hK K
  try simp only [Act.put, List.setIfInBounds_toArray, List.set_cons_zero, List.set_cons_succ]
  refine takeL (i := 14) (oi := ?_) (v := ?_) ?_ (by kernel_rfl) (by kernel_rfl) (by kernel_rfl) (by kernel_rfl) ?_ (Or.inl ⟨?_, ?_⟩) (by assumption) ?_
  rotate_left 2
  · (simp only [List.getElem?_toArray, List.getElem?_cons_succ, List.getElem?_cons_zero]; rfl)
  · exact fun _ _ _ h => h
  · rfl
  · (intro w hSw; (try dsimp only at hSw); go_simp; (try with_reducible rfl))
  try simp only [Act.put, List.setIfInBounds_toArray, List.set_cons_zero, List.set_cons_succ]
  refine doneL (by kernel_rfl) ?_ _
  obtain ⟨u0, uX⟩ := HSM.out _ q0 q1
  generalize Pl.scalePoint X PX (n2 % (PX : Int)) = u at *
  clear wP hP0 nP0 nPN r1 u1 q0 q1 n20 n21
  go_wp2_with (go_at_call 37; ((with_reducible refine (implScalePoint X PX ((PX : Int) - 1) _).mono ?_)); rw [HSL.out]; rintro e w' ⟨rfl, rfl⟩)
  have wX : IntKind.i64.wrap ((X : Int) - 1) = (X : Int) - 1 := IntWalk.i64_in _ ⟨by omega, by omega⟩
  refine regionL (S := (fun w' => w'.cell? ⟨w1.heap.size, 0, none⟩ = some (.int .i64 X) ∧ w'.cell? ⟨w1.heap.size, 1, none⟩ = some (.int .i64 Y) ∧ w'.cell? ⟨w1.heap.size, 2, none⟩ = some (.slice Ai zs.length ci) ∧ w'.cell? ⟨w4.heap.size, 0, none⟩ = some (.int .i64 X) ∧ w'.cell? ⟨w4.heap.size, 1, none⟩ = some (.int .i64 Y) ∧ w'.cell? ⟨w4.heap.size, 2, none⟩ = some (.slice Aw4 zs.length cw4))) (L := 40) (by kernel_rfl) ?_ (fun hHeld => ?_)
  · (((try dsimp only); (repeat' apply And.intro) <;> (first | (simp only [World.cell?_drew, *]; done) | (simp (disch := (first | omega | (simp; omega))) only [cell_far, cell_old, World.cell?_drew, *]; done))))
  refine takeL (i := 0) (oi := ?_) (v := ?_) ?_ (by kernel_rfl) (by kernel_rfl) (by kernel_rfl) (by kernel_rfl) ?_ (Or.inl ⟨?_, ?_⟩) (by assumption) ?_
  rotate_left 2
  · (simp only [List.getElem?_toArray, List.getElem?_cons_succ, List.getElem?_cons_zero]; rfl)
  · exact fun _ _ _ h => h
  · rfl
  · (intro w hSw; (try dsimp only at hSw); go_simp; (try with_reducible rfl))
  try simp only [Act.put, List.setIfInBounds_toArray, List.set_cons_zero, List.set_cons_succ]
  refine takeL (i := 1) (oi := ?_) (v := ?_) ?_ (by kernel_rfl) (by kernel_rfl) (by kernel_rfl) (by kernel_rfl) ?_ (Or.inl ⟨?_, ?_⟩) (by assumption) ?_
  rotate_left 2
  · (simp only [List.getElem?_toArray, List.getElem?_cons_succ, List.getElem?_cons_zero]; rfl)
  · exact fun _ _ _ h => h
  · rfl
  · (intro w hSw; (try dsimp only at hSw); go_simp; (try with_reducible rfl))
  try simp only [Act.put, List.setIfInBounds_toArray, List.set_cons_zero, List.set_cons_succ]
  refine readyL (rs := [2]) (by kernel_rfl) (by simp) ?_
  refine AllReadyL.cons (o := ?_) ?_ (fun K hK => ?_) AllReadyL.none_
  rotate_left
  · (simp only [List.getElem?_toArray, List.getElem?_cons_succ, List.getElem?_cons_zero]; rfl)
  go_simp
  go_at_call 38
  ((with_reducible refine (sameImage_same _ _ _ _ _ _ _ _ (w3.heap.size + 1) (w4.heap.size) (w.heap.size) (w1.heap.size) zs _ (Iyv5.out.step (by go_grown)) (Iiv5.out.step (by go_grown))).mono ?_))
  rintro e w6 ⟨rfl, hbw6⟩
  have bw6 : Below v5.heap.size v5 w6 := later (by go_grown) hbw6
  have Bw6 : Below w.heap.size w w6 := Bv5.trans (bw6.mono bsv5)
  have sw6 := hbw6.size
  (try simp at sw6)
  have tw6 := bw6.size
  have bsw6 := Bw6.size
  have Xiw6 := Lib.hid (Xiv5.out.step bw6)
  clear Xiv5 qiv5_0 qiv5_1 qiv5_2 qiv5_3
  have Xxw6 := Lib.hid (Xxv5.out.step bw6)
  clear Xxv5 qxv5_0 qxv5_1 qxv5_2 qxv5_3
  have Xyw6 := Lib.hid (Xyv5.out.step bw6)
  clear Xyv5 qyv5_0 qyv5_1 qyv5_2 qyv5_3
  have ⟨qiw6_0, qiw6_1, qiw6_2, qiw6_3⟩ := Xiw6.out.open3
  have ⟨qxw6_0, qxw6_1, qxw6_2, qxw6_3⟩ := Xxw6.out.open3
  have ⟨qyw6_0, qyw6_1, qyw6_2, qyw6_3⟩ := Xyw6.out.open3
  have Iiw6 := Lib.hid (Iiv5.out.step bw6)
  clear Iiv5
  have Ixw6 := Lib.hid (Ixv5.out.step bw6)
  clear Ixv5
  have Iyw6 := Lib.hid (Iyv5.out.step bw6)
  clear Iyv5
  refine hK.out _ _ ?_ (fun hHeld => ?_)
  · (((try dsimp only); (repeat' apply And.intro) <;> (first | (simp only [World.cell?_drew, *]; done) | (simp (disch := (first | omega | (simp; omega))) only [cell_far, cell_old, World.cell?_drew, *]; done))))
  clear hK K
  try simp only [Act.put, List.setIfInBounds_toArray, List.set_cons_zero, List.set_cons_succ]
  refine takeL (i := 3) (oi := ?_) (v := ?_) ?_ (by kernel_rfl) (by kernel_rfl) (by kernel_rfl) (by kernel_rfl) ?_ (Or.inl ⟨?_, ?_⟩) (by assumption) ?_
  rotate_left 2
  · (simp only [List.getElem?_toArray, List.getElem?_cons_succ, List.getElem?_cons_zero]; rfl)
  · exact fun _ _ _ h => h
  · rfl
  · (intro w hSw; (try dsimp only at hSw); go_simp; (try with_reducible rfl))
  try simp only [Act.put, List.setIfInBounds_toArray, List.set_cons_zero, List.set_cons_succ]
  refine takeL (i := 4) (oi := ?_) (v := ?_) ?_ (by kernel_rfl) (by kernel_rfl) (by kernel_rfl) (by kernel_rfl) ?_ (Or.inl ⟨?_, ?_⟩) (by assumption) ?_
  rotate_left 2
  · (simp only [List.getElem?_toArray, List.getElem?_cons_succ, List.getElem?_cons_zero]; rfl)
  · exact fun _ _ _ h => h
  · rfl
  · (intro w hSw; (try dsimp only at hSw); go_simp; (try with_reducible rfl))
  try simp only [Act.put, List.setIfInBounds_toArray, List.set_cons_zero, List.set_cons_succ]
  refine takeL (i := 5) (oi := ?_) (v := ?_) ?_ (by kernel_rfl) (by kernel_rfl) (by kernel_rfl) (by kernel_rfl) ?_ (Or.inl ⟨?_, ?_⟩) (by assumption) ?_
  rotate_left 2
  · (simp only [List.getElem?_toArray, List.getElem?_cons_succ, List.getElem?_cons_zero]; rfl)
  · exact fun _ _ _ h => h
  · rfl
  · (intro w hSw; (try dsimp only at hSw); go_simp; (try with_reducible rfl))
  try simp only [Act.put, List.setIfInBounds_toArray, List.set_cons_zero, List.set_cons_succ]
  refine takeL (i := 6) (oi := ?_) (v := ?_) ?_ (by kernel_rfl) (by kernel_rfl) (by kernel_rfl) (by kernel_rfl) ?_ (Or.inl ⟨?_, ?_⟩) (by assumption) ?_
  rotate_left 2
  · (simp only [List.getElem?_toArray, List.getElem?_cons_succ, List.getElem?_cons_zero]; rfl)
  · exact fun _ _ _ h => h
  · rfl
  · (intro w hSw; (try dsimp only at hSw); go_simp; (try with_reducible rfl))
  try simp only [Act.put, List.setIfInBounds_toArray, List.set_cons_zero, List.set_cons_succ]
  refine takeL (i := 7) (oi := ?_) (v := ?_) ?_ (by kernel_rfl) (by kernel_rfl) (by kernel_rfl) (by kernel_rfl) ?_ (Or.inl ⟨?_, ?_⟩) (by assumption) ?_
  rotate_left 2
  · (simp only [List.getElem?_toArray, List.getElem?_cons_succ, List.getElem?_cons_zero]; rfl)
  · exact fun _ _ _ h => h
  · rfl
  · (intro w hSw; (try dsimp only at hSw); go_simp; (try with_reducible rfl))
  try simp only [Act.put, List.setIfInBounds_toArray, List.set_cons_zero, List.set_cons_succ]
  refine takeL (i := 8) (oi := ?_) (v := ?_) ?_ (by kernel_rfl) (by kernel_rfl) (by kernel_rfl) (by kernel_rfl) ?_ (Or.inl ⟨?_, ?_⟩) (by assumption) ?_
  rotate_left 2
  · (simp only [List.getElem?_toArray, List.getElem?_cons_succ, List.getElem?_cons_zero]; rfl)
  · exact fun _ _ _ h => h
  · rfl
  · (intro w hSw; (try dsimp only at hSw); go_simp; (try with_reducible rfl))
  try simp only [Act.put, List.setIfInBounds_toArray, List.set_cons_zero, List.set_cons_succ]
  refine takeL (i := 10) (oi := ?_) (v := ?_) ?_ (by kernel_rfl) (by kernel_rfl) (by kernel_rfl) (by kernel_rfl) ?_ (Or.inl ⟨?_, ?_⟩) (by assumption) ?_
  rotate_left 2
  · (simp only [List.getElem?_toArray, List.getElem?_cons_succ, List.getElem?_cons_zero]; rfl)
  · exact fun _ _ _ h => h
  · rfl
  · (intro w hSw; (try dsimp only at hSw); go_simp; (try with_reducible rfl))
  try simp only [Act.put, List.setIfInBounds_toArray, List.set_cons_zero, List.set_cons_succ]
  refine readyL (rs := [9]) (by kernel_rfl) (by simp) ?_
  refine AllReadyL.cons (o := ?_) ?_ (fun K hK => ?_) AllReadyL.none_
  rotate_left
  · (simp only [List.getElem?_toArray, List.getElem?_cons_succ, List.getElem?_cons_zero]; rfl)
  go_simp
  go_at_call 30
  ((with_reducible refine (implScaled _ _ _ _ _ (w.heap.size) (w1.heap.size) zs _ _ _ (Iiw6.out.step (by go_grown))).mono ?_))
  rw [SS.out]
  rintro e w7 ⟨Aw7, cw7, rfl, Ow7, hbw7⟩
  dsimp only at Ow7 ⊢
  have bw7 : Below w6.heap.size w6 w7 := later (by go_grown) hbw7
  have Bw7 : Below w.heap.size w w7 := Bw6.trans (bw7.mono bsw6)
  have sw7 := hbw7.size
  (try simp at sw7)
  have tw7 := bw7.size
  have bsw7 := Bw7.size
  have Xiw7 := Lib.hid (Xiw6.out.step bw7)
  clear Xiw6 qiw6_0 qiw6_1 qiw6_2 qiw6_3
  have Xxw7 := Lib.hid (Xxw6.out.step bw7)
  clear Xxw6 qxw6_0 qxw6_1 qxw6_2 qxw6_3
  have Xyw7 := Lib.hid (Xyw6.out.step bw7)
  clear Xyw6 qyw6_0 qyw6_1 qyw6_2 qyw6_3
  have ⟨qiw7_0, qiw7_1, qiw7_2, qiw7_3⟩ := Xiw7.out.open3
  have ⟨qxw7_0, qxw7_1, qxw7_2, qxw7_3⟩ := Xxw7.out.open3
  have ⟨qyw7_0, qyw7_1, qyw7_2, qyw7_3⟩ := Xyw7.out.open3
  have Iiw7 := Lib.hid (Iiw6.out.step bw7)
  clear Iiw6
  have Ixw7 := Lib.hid (Ixw6.out.step bw7)
  clear Ixw6
  have Iyw7 := Lib.hid (Iyw6.out.step bw7)
  clear Iyw6
  have Isw7 : Hid (Ints w7 (w6.heap.size) w7.heap.size (.slice Aw7 zs.length cw7) zs) := Own.mono Ow7 (by (try simp); (try omega)) (Nat.le_refl _) (Nat.le_refl _)
  clear Ow7
  refine hK.out _ _ ?_ (fun hHeld => ?_)
  · (((try dsimp only); (repeat' apply And.intro) <;> (first | (simp only [World.cell?_drew, *]; done) | (simp (disch := (first | omega | (simp; omega))) only [cell_far, cell_old, World.cell?_drew, *]; done))))
  clear hK K
  try simp only [Act.put, List.setIfInBounds_toArray, List.set_cons_zero, List.set_cons_succ]
  refine readyL (rs := [11]) (by kernel_rfl) (by simp) ?_
  refine AllReadyL.cons (o := ?_) ?_ (fun K hK => ?_) AllReadyL.none_
  rotate_left
  · (simp only [List.getElem?_toArray, List.getElem?_cons_succ, List.getElem?_cons_zero]; rfl)
  go_simp
  go_at_call 38
  ((with_reducible refine (sameImage_same _ _ _ _ _ _ _ _ (w6.heap.size) (w7.heap.size) (w.heap.size) (w1.heap.size) zs _ (Isw7.out.step (by go_grown)) (Iiw7.out.step (by go_grown))).mono ?_))
  rintro e w8 ⟨rfl, hbw8⟩
  have bw8 : Below w7.heap.size w7 w8 := later (by go_grown) hbw8
  have Bw8 : Below w.heap.size w w8 := Bw7.trans (bw8.mono bsw7)
  have sw8 := hbw8.size
  (try simp at sw8)
  have tw8 := bw8.size
  have bsw8 := Bw8.size
  have Xiw8 := Lib.hid (Xiw7.out.step bw8)
  clear Xiw7 qiw7_0 qiw7_1 qiw7_2 qiw7_3
  have Xxw8 := Lib.hid (Xxw7.out.step bw8)
  clear Xxw7 qxw7_0 qxw7_1 qxw7_2 qxw7_3
  have Xyw8 := Lib.hid (Xyw7.out.step bw8)
  clear Xyw7 qyw7_0 qyw7_1 qyw7_2 qyw7_3
  have ⟨qiw8_0, qiw8_1, qiw8_2, qiw8_3⟩ := Xiw8.out.open3
  have ⟨qxw8_0, qxw8_1, qxw8_2, qxw8_3⟩ := Xxw8.out.open3
  have ⟨qyw8_0, qyw8_1, qyw8_2, qyw8_3⟩ := Xyw8.out.open3
  have Iiw8 := Lib.hid (Iiw7.out.step bw8)
  clear Iiw7
  have Ixw8 := Lib.hid (Ixw7.out.step bw8)
  clear Ixw7
  have Iyw8 := Lib.hid (Iyw7.out.step bw8)
  clear Iyw7
  have Isw8 := Lib.hid (Isw7.out.step bw8)
  clear Isw7
  refine hK.out _ _ ?_ (fun hHeld => ?_)
  · (((try dsimp only); (repeat' apply And.intro) <;> (first | (simp only [World.cell?_drew, *]; done) | (simp (disch := (first | omega | (simp; omega))) only [cell_far, cell_old, World.cell?_drew, *]; done))))
  clear hK K
  try simp only [Act.put, List.setIfInBounds_toArray, List.set_cons_zero, List.set_cons_succ]
  refine takeL (i := 12) (oi := ?_) (v := ?_) ?_ (by kernel_rfl) (by kernel_rfl) (by kernel_rfl) (by kernel_rfl) ?_ (Or.inl ⟨?_, ?_⟩) (by assumption) ?_
  rotate_left 2
  · (simp only [List.getElem?_toArray, List.getElem?_cons_succ, List.getElem?_cons_zero]; rfl)
  · exact fun _ _ _ h => h
  · rfl
  · (intro w hSw; (try dsimp only at hSw); go_simp; (try with_reducible rfl))
  try simp only [Act.put, List.setIfInBounds_toArray, List.set_cons_zero, List.set_cons_succ]
  refine takeL (i := 13) (oi := ?_) (v := ?_) ?_ (by kernel_rfl) (by kernel_rfl) (by kernel_rfl) (by kernel_rfl) ?_ (Or.inl ⟨?_, ?_⟩) (by assumption) ?_
  rotate_left 2
  · (simp only [List.getElem?_toArray, List.getElem?_cons_succ, List.getElem?_cons_zero]; rfl)
  · exact fun _ _ _ h => h
  · rfl
  · (intro w hSw; (try dsimp only at hSw); go_simp; (try with_reducible rfl))
  try simp only [Act.put, List.setIfInBounds_toArray, List.set_cons_zero, List.set_cons_succ]
  refine takeL (i := 14) (oi := ?_) (v := ?_) ?_ (by kernel_rfl) (by kernel_rfl) (by kernel_rfl) (by kernel_rfl) ?_ (Or.inl ⟨?_, ?_⟩) (by assumption) ?_
  rotate_left 2
  · (simp only [List.getElem?_toArray, List.getElem?_cons_succ, List.getElem?_cons_zero]; rfl)
  · exact fun _ _ _ h => h
  · rfl
  · (intro w hSw; (try dsimp only at hSw); go_simp; (try with_reducible rfl))
  try simp only [Act.put, List.setIfInBounds_toArray, List.set_cons_zero, List.set_cons_succ]
  refine takeL (i := 15) (oi := ?_) (v := ?_) ?_ (by kernel_rfl) (by kernel_rfl) (by kernel_rfl) (by kernel_rfl) ?_ (Or.inl ⟨?_, ?_⟩) (by assumption) ?_
  rotate_left 2
  · (simp only [List.getElem?_toArray, List.getElem?_cons_succ, List.getElem?_cons_zero]; rfl)
  · exact fun _ _ _ h => h
  · rfl
  · (intro w hSw; (try dsimp only at hSw); go_simp; (try with_reducible rfl))
  try simp only [Act.put, List.setIfInBounds_toArray, List.set_cons_zero, List.set_cons_succ]
  refine takeL (i := 16) (oi := ?_) (v := ?_) ?_ (by kernel_rfl) (by kernel_rfl) (by kernel_rfl) (by kernel_rfl) ?_ (Or.inl ⟨?_, ?_⟩) (by assumption) ?_
  rotate_left 2
  · (simp only [List.getElem?_toArray, List.getElem?_cons_succ, List.getElem?_cons_zero]; rfl)
  · exact fun _ _ _ h => h
  · rfl
  · (intro w hSw; (try dsimp only at hSw); go_simp; (try with_reducible rfl))
  try simp only [Act.put, List.setIfInBounds_toArray, List.set_cons_zero, List.set_cons_succ]
  refine takeL (i := 17) (oi := ?_) (v := ?_) ?_ (by kernel_rfl) (by kernel_rfl) (by kernel_rfl) (by kernel_rfl) ?_ (Or.inl ⟨?_, ?_⟩) (by assumption) ?_
  rotate_left 2
  · (simp only [List.getElem?_toArray, List.getElem?_cons_succ, List.getElem?_cons_zero]; rfl)
  · exact fun _ _ _ h => h
  · rfl
  · (intro w hSw; (try dsimp only at hSw); go_simp; (try with_reducible rfl))
  try simp only [Act.put, List.setIfInBounds_toArray, List.set_cons_zero, List.set_cons_succ]
  refine takeL (i := 18) (oi := ?_) (v := ?_) ?_ (by kernel_rfl) (by kernel_rfl) (by kernel_rfl) (by kernel_rfl) ?_ (Or.inl ⟨?_, ?_⟩) (by assumption) ?_
  rotate_left 2
  · (simp only [List.getElem?_toArray, List.getElem?_cons_succ, List.getElem?_cons_zero]; rfl)
  · exact fun _ _ _ h => h
  · rfl
  · (intro w hSw; (try dsimp only at hSw); go_simp; (try with_reducible rfl))
  try simp only [Act.put, List.setIfInBounds_toArray, List.set_cons_zero, List.set_cons_succ]
  refine takeL (i := 20) (oi := ?_) (v := ?_) ?_ (by kernel_rfl) (by kernel_rfl) (by kernel_rfl) (by kernel_rfl) ?_ (Or.inl ⟨?_, ?_⟩) (by assumption) ?_
  rotate_left 2
  · (simp only [List.getElem?_toArray, List.getElem?_cons_succ, List.getElem?_cons_zero]; rfl)
  · exact fun _ _ _ h => h
  · rfl
  · (intro w hSw; (try dsimp only at hSw); go_simp; (try with_reducible rfl))
  try simp only [Act.put, List.setIfInBounds_toArray, List.set_cons_zero, List.set_cons_succ]
  refine readyL (rs := [19]) (by kernel_rfl) (by simp) ?_
  refine AllReadyL.cons (o := ?_) ?_ (fun K hK => ?_) AllReadyL.none_
  rotate_left
  · (simp only [List.getElem?_toArray, List.getElem?_cons_succ, List.getElem?_cons_zero]; rfl)
  go_simp
  go_at_call 28
  ((with_reducible refine (implTile _ _ _ _ _ (w.heap.size) (w1.heap.size) zs _ _ _ (Iiw8.out.step (by go_grown))).mono ?_))
  rw [ST.out]
  rintro e w9 ⟨Aw9, cw9, rfl, Ow9, hbw9⟩
  dsimp only at Ow9 ⊢
  have bw9 : Below w8.heap.size w8 w9 := later (by go_grown) hbw9
  have Bw9 : Below w.heap.size w w9 := Bw8.trans (bw9.mono bsw8)
  have sw9 := hbw9.size
  (try simp at sw9)
  have tw9 := bw9.size
  have bsw9 := Bw9.size
  have Xiw9 := Lib.hid (Xiw8.out.step bw9)
  clear Xiw8 qiw8_0 qiw8_1 qiw8_2 qiw8_3
  have Xxw9 := Lib.hid (Xxw8.out.step bw9)
  clear Xxw8 qxw8_0 qxw8_1 qxw8_2 qxw8_3
  have Xyw9 := Lib.hid (Xyw8.out.step bw9)
  clear Xyw8 qyw8_0 qyw8_1 qyw8_2 qyw8_3
  have ⟨qiw9_0, qiw9_1, qiw9_2, qiw9_3⟩ := Xiw9.out.open3
  have ⟨qxw9_0, qxw9_1, qxw9_2, qxw9_3⟩ := Xxw9.out.open3
  have ⟨qyw9_0, qyw9_1, qyw9_2, qyw9_3⟩ := Xyw9.out.open3
  have Iiw9 := Lib.hid (Iiw8.out.step bw9)
  clear Iiw8
  have Ixw9 := Lib.hid (Ixw8.out.step bw9)
  clear Ixw8
  have Iyw9 := Lib.hid (Iyw8.out.step bw9)
  clear Iyw8
  have Isw9 := Lib.hid (Isw8.out.step bw9)
  clear Isw8
  have Itw9 : Hid (Ints w9 (w8.heap.size) w9.heap.size (.slice Aw9 zs.length cw9) zs) := Own.mono Ow9 (by (try simp); (try omega)) (Nat.le_refl _) (Nat.le_refl _)
  clear Ow9
  refine hK.out _ _ ?_ (fun hHeld => ?_)
  · (((try dsimp only); (repeat' apply And.intro) <;> (first | (simp only [World.cell?_drew, *]; done) | (simp (disch := (first | omega | (simp; omega))) only [cell_far, cell_old, World.cell?_drew, *]; done))))
  clear hK K
  try simp only [Act.put, List.setIfInBounds_toArray, List.set_cons_zero, List.set_cons_succ]
  refine readyL (rs := [21]) (by kernel_rfl) (by simp) ?_
  refine AllReadyL.cons (o := ?_) ?_ (fun K hK => ?_) AllReadyL.none_
  rotate_left
  · (simp only [List.getElem?_toArray, List.getElem?_cons_succ, List.getElem?_cons_zero]; rfl)
  go_simp
  go_at_call 38
  ((with_reducible refine (sameImage_same _ _ _ _ _ _ _ _ (w8.heap.size) (w9.heap.size) (w.heap.size) (w1.heap.size) zs _ (Itw9.out.step (by go_grown)) (Iiw9.out.step (by go_grown))).mono ?_))
  rintro e w10 ⟨rfl, hbw10⟩
  have bw10 : Below w9.heap.size w9 w10 := later (by go_grown) hbw10
  have Bw10 : Below w.heap.size w w10 := Bw9.trans (bw10.mono bsw9)
  have sw10 := hbw10.size
  (try simp at sw10)
  have tw10 := bw10.size
  have bsw10 := Bw10.size
  have Xiw10 := Lib.hid (Xiw9.out.step bw10)
  clear Xiw9 qiw9_0 qiw9_1 qiw9_2 qiw9_3
  have Xxw10 := Lib.hid (Xxw9.out.step bw10)
  clear Xxw9 qxw9_0 qxw9_1 qxw9_2 qxw9_3
  have Xyw10 := Lib.hid (Xyw9.out.step bw10)
  clear Xyw9 qyw9_0 qyw9_1 qyw9_2 qyw9_3
  have ⟨qiw10_0, qiw10_1, qiw10_2, qiw10_3⟩ := Xiw10.out.open3
  have ⟨qxw10_0, qxw10_1, qxw10_2, qxw10_3⟩ := Xxw10.out.open3
  have ⟨qyw10_0, qyw10_1, qyw10_2, qyw10_3⟩ := Xyw10.out.open3
  have Iiw10 := Lib.hid (Iiw9.out.step bw10)
  clear Iiw9
  have Ixw10 := Lib.hid (Ixw9.out.step bw10)
  clear Ixw9
  have Iyw10 := Lib.hid (Iyw9.out.step bw10)
  clear Iyw9
  have Isw10 := Lib.hid (Isw9.out.step bw10)
  clear Isw9
  have Itw10 := Lib.hid (Itw9.out.step bw10)
  clear Itw9
  refine hK.out _ _ ?_ (fun hHeld => ?_)
  · (((try dsimp only); (repeat' apply And.intro) <;> (first | (simp only [World.cell?_drew, *]; done) | (simp (disch := (first | omega | (simp; omega))) only [cell_far, cell_old, World.cell?_drew, *]; done))))
  clear hK K
  try simp only [Act.put, List.setIfInBounds_toArray, List.set_cons_zero, List.set_cons_succ]
  refine takeL (i := 22) (oi := ?_) (v := ?_) ?_ (by kernel_rfl) (by kernel_rfl) (by kernel_rfl) (by kernel_rfl) ?_ (Or.inl ⟨?_, ?_⟩) (by assumption) ?_
  rotate_left 2
  · (simp only [List.getElem?_toArray, List.getElem?_cons_succ, List.getElem?_cons_zero]; rfl)
  · exact fun _ _ _ h => h
  · rfl
  · (intro w hSw; (try dsimp only at hSw); go_simp; (try with_reducible rfl))
  try simp only [Act.put, List.setIfInBounds_toArray, List.set_cons_zero, List.set_cons_succ]
  refine takeL (i := 23) (oi := ?_) (v := ?_) ?_ (by kernel_rfl) (by kernel_rfl) (by kernel_rfl) (by kernel_rfl) ?_ (Or.inl ⟨?_, ?_⟩) (by assumption) ?_
  rotate_left 2
  · (simp only [List.getElem?_toArray, List.getElem?_cons_succ, List.getElem?_cons_zero]; rfl)
  · exact fun _ _ _ h => h
  · rfl
  · (intro w hSw; (try dsimp only at hSw); go_simp; (try with_reducible rfl))
  try simp only [Act.put, List.setIfInBounds_toArray, List.set_cons_zero, List.set_cons_succ]
  refine takeL (i := 24) (oi := ?_) (v := ?_) ?_ (by kernel_rfl) (by kernel_rfl) (by kernel_rfl) (by kernel_rfl) ?_ (Or.inl ⟨?_, ?_⟩) (by assumption) ?_
  rotate_left 2
  · (simp only [List.getElem?_toArray, List.getElem?_cons_succ, List.getElem?_cons_zero]; rfl)
  · exact fun _ _ _ h => h
  · rfl
  · (intro w hSw; (try dsimp only at hSw); go_simp; (try with_reducible rfl))
  try simp only [Act.put, List.setIfInBounds_toArray, List.set_cons_zero, List.set_cons_succ]
  refine takeL (i := 25) (oi := ?_) (v := ?_) ?_ (by kernel_rfl) (by kernel_rfl) (by kernel_rfl) (by kernel_rfl) ?_ (Or.inl ⟨?_, ?_⟩) (by assumption) ?_
  rotate_left 2
  · (simp only [List.getElem?_toArray, List.getElem?_cons_succ, List.getElem?_cons_zero]; rfl)
  · exact fun _ _ _ h => h
  · rfl
  · (intro w hSw; (try dsimp only at hSw); go_simp; (try with_reducible rfl))
  try simp only [Act.put, List.setIfInBounds_toArray, List.set_cons_zero, List.set_cons_succ]
  refine takeL (i := 26) (oi := ?_) (v := ?_) ?_ (by kernel_rfl) (by kernel_rfl) (by kernel_rfl) (by kernel_rfl) ?_ (Or.inl ⟨?_, ?_⟩) (by assumption) ?_
  rotate_left 2
  · (simp only [List.getElem?_toArray, List.getElem?_cons_succ, List.getElem?_cons_zero]; rfl)
  · exact fun _ _ _ h => h
  · rfl
  · (intro w hSw; (try dsimp only at hSw); go_simp; (try with_reducible rfl))
  try simp only [Act.put, List.setIfInBounds_toArray, List.set_cons_zero, List.set_cons_succ]
  refine takeL (i := 27) (oi := ?_) (v := ?_) ?_ (by kernel_rfl) (by kernel_rfl) (by kernel_rfl) (by kernel_rfl) ?_ (Or.inl ⟨?_, ?_⟩) (by assumption) ?_
  rotate_left 2
  · (simp only [List.getElem?_toArray, List.getElem?_cons_succ, List.getElem?_cons_zero]; rfl)
  · exact fun _ _ _ h => h
  · rfl
  · (intro w hSw; (try dsimp only at hSw); go_simp; (try with_reducible rfl))
  try simp only [Act.put, List.setIfInBounds_toArray, List.set_cons_zero, List.set_cons_succ]
  refine takeL (i := 28) (oi := ?_) (v := ?_) ?_ (by kernel_rfl) (by kernel_rfl) (by kernel_rfl) (by kernel_rfl) ?_ (Or.inl ⟨?_, ?_⟩) (by assumption) ?_
  rotate_left 2
  · (simp only [List.getElem?_toArray, List.getElem?_cons_succ, List.getElem?_cons_zero]; rfl)
  · exact fun _ _ _ h => h
  · rfl
  · (intro w hSw; (try dsimp only at hSw); go_simp; (try with_reducible rfl))
  try simp only [Act.put, List.setIfInBounds_toArray, List.set_cons_zero, List.set_cons_succ]
  refine takeL (i := 29) (oi := ?_) (v := ?_) ?_ (by kernel_rfl) (by kernel_rfl) (by kernel_rfl) (by kernel_rfl) ?_ (Or.inl ⟨?_, ?_⟩) (by assumption) ?_
  rotate_left 2
  · (simp only [List.getElem?_toArray, List.getElem?_cons_succ, List.getElem?_cons_zero]; rfl)
  · exact fun _ _ _ h => h
  · rfl
  · (intro w hSw; (try dsimp only at hSw); go_simp; (try with_reducible rfl))
  try simp only [Act.put, List.setIfInBounds_toArray, List.set_cons_zero, List.set_cons_succ]
  refine takeL (i := 30) (oi := ?_) (v := ?_) ?_ (by kernel_rfl) (by kernel_rfl) (by kernel_rfl) (by kernel_rfl) ?_ (Or.inl ⟨?_, ?_⟩) (by assumption) ?_
  rotate_left 2
  · (simp only [List.getElem?_toArray, List.getElem?_cons_succ, List.getElem?_cons_zero]; rfl)
  · exact fun _ _ _ h => h
  · rfl
  · (intro w hSw; (try dsimp only at hSw); go_simp; (try with_reducible rfl))
  try simp only [Act.put, List.setIfInBounds_toArray, List.set_cons_zero, List.set_cons_succ]
  refine takeL (i := 31) (oi := ?_) (v := ?_) ?_ (by kernel_rfl) (by kernel_rfl) (by kernel_rfl) (by kernel_rfl) ?_ (Or.inl ⟨?_, ?_⟩) (by assumption) ?_
  rotate_left 2
  · (simp only [List.getElem?_toArray, List.getElem?_cons_succ, List.getElem?_cons_zero]; rfl)
  · exact fun _ _ _ h => h
  · rfl
  · (intro w hSw; (try dsimp only at hSw); go_simp; (try with_reducible rfl))
  try simp only [Act.put, List.setIfInBounds_toArray, List.set_cons_zero, List.set_cons_succ]
  refine takeL (i := 32) (oi := ?_) (v := ?_) ?_ (by kernel_rfl) (by kernel_rfl) (by kernel_rfl) (by kernel_rfl) ?_ (Or.inl ⟨?_, ?_⟩) (by assumption) ?_
  rotate_left 2
  · (simp only [List.getElem?_toArray, List.getElem?_cons_succ, List.getElem?_cons_zero]; rfl)
  · exact fun _ _ _ h => h
  · rfl
  · (intro w hSw; (try dsimp only at hSw); go_simp; (try with_reducible rfl))
  try simp only [Act.put, List.setIfInBounds_toArray, List.set_cons_zero, List.set_cons_succ]
  refine takeL (i := 33) (oi := ?_) (v := ?_) ?_ (by kernel_rfl) (by kernel_rfl) (by kernel_rfl) (by kernel_rfl) ?_ (Or.inl ⟨?_, ?_⟩) (by assumption) ?_
  rotate_left 2
  · (simp only [List.getElem?_toArray, List.getElem?_cons_succ, List.getElem?_cons_zero]; rfl)
  · exact fun _ _ _ h => h
  · rfl
  · (intro w hSw; (try dsimp only at hSw); go_simp; (try with_reducible rfl))
  try simp only [Act.put, List.setIfInBounds_toArray, List.set_cons_zero, List.set_cons_succ]
  refine takeL (i := 34) (oi := ?_) (v := ?_) ?_ (by kernel_rfl) (by kernel_rfl) (by kernel_rfl) (by kernel_rfl) ?_ (Or.inl ⟨?_, ?_⟩) (by assumption) ?_
  rotate_left 2
  · (simp only [List.getElem?_toArray, List.getElem?_cons_succ, List.getElem?_cons_zero]; rfl)
  · exact fun _ _ _ h => h
  · rfl
  · (intro w hSw; (try dsimp only at hSw); go_simp; (try with_reducible rfl))
  try simp only [Act.put, List.setIfInBounds_toArray, List.set_cons_zero, List.set_cons_succ]
  refine takeL (i := 35) (oi := ?_) (v := ?_) ?_ (by kernel_rfl) (by kernel_rfl) (by kernel_rfl) (by kernel_rfl) ?_ (Or.inl ⟨?_, ?_⟩) (by assumption) ?_
  rotate_left 2
  · (simp only [List.getElem?_toArray, List.getElem?_cons_succ, List.getElem?_cons_zero]; rfl)
  · exact fun _ _ _ h => h
  · rfl
  · (intro w hSw; (try dsimp only at hSw); go_simp; (try with_reducible rfl))
  try simp only [Act.put, List.setIfInBounds_toArray, List.set_cons_zero, List.set_cons_succ]
  refine takeL (i := 36) (oi := ?_) (v := ?_) ?_ (by kernel_rfl) (by kernel_rfl) (by kernel_rfl) (by kernel_rfl) ?_ (Or.inl ⟨?_, ?_⟩) (by assumption) ?_
  rotate_left 2
  · (simp only [List.getElem?_toArray, List.getElem?_cons_succ, List.getElem?_cons_zero]; rfl)
  · exact fun _ _ _ h => h
  · rfl
  · (intro w hSw; (try dsimp only at hSw); go_simp; (try with_reducible rfl))
  try simp only [Act.put, List.setIfInBounds_toArray, List.set_cons_zero, List.set_cons_succ]
  refine takeL (i := 37) (oi := ?_) (v := ?_) ?_ (by kernel_rfl) (by kernel_rfl) (by kernel_rfl) (by kernel_rfl) ?_ (Or.inl ⟨?_, ?_⟩) (by assumption) ?_
  rotate_left 2
  · (simp only [List.getElem?_toArray, List.getElem?_cons_succ, List.getElem?_cons_zero]; rfl)
  · exact fun _ _ _ h => h
  · rfl
  · (intro w hSw; (try dsimp only at hSw); go_simp; (try with_reducible rfl))
  try simp only [Act.put, List.setIfInBounds_toArray, List.set_cons_zero, List.set_cons_succ]
  refine takeL (i := 38) (oi := ?_) (v := ?_) ?_ (by kernel_rfl) (by kernel_rfl) (by kernel_rfl) (by kernel_rfl) ?_ (Or.inl ⟨?_, ?_⟩) (by assumption) ?_
  rotate_left 2
  · (simp only [List.getElem?_toArray, List.getElem?_cons_succ, List.getElem?_cons_zero]; rfl)
  · exact fun _ _ _ h => h
  · rfl
  · (intro w hSw; (try dsimp only at hSw); go_simp; (try with_reducible rfl))
  try simp only [Act.put, List.setIfInBounds_toArray, List.set_cons_zero, List.set_cons_succ]
  refine takeL (i := 39) (oi := ?_) (v := ?_) ?_ (by kernel_rfl) (by kernel_rfl) (by kernel_rfl) (by kernel_rfl) ?_ (Or.inl ⟨?_, ?_⟩) (by assumption) ?_
  rotate_left 2
  · (simp only [List.getElem?_toArray, List.getElem?_cons_succ, List.getElem?_cons_zero]; rfl)
  · exact fun _ _ _ h => h
  · rfl
  · (intro w hSw; (try dsimp only at hSw); go_simp; (try with_reducible rfl))
  try simp only [Act.put, List.setIfInBounds_toArray, List.set_cons_zero, List.set_cons_succ]
  refine doneL (by kernel_rfl) ?_ _
  clear wX
  go_wp2_with fail
  go_ret
  exact ⟨rfl, by go_grown⟩
end Go.Proofs.Ytbgemonpkncldaa
