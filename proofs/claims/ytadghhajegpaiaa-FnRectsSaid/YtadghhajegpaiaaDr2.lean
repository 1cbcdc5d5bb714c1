/- Contracts of the laws' draws: small rectangles. -/
import Derived.Test.YtadghhajegpaiaaDr
import Derived.Test.YtadghhajegpaiaaRect
import Derived.Test.YtadghhajegpaiaaRectLaw
namespace Go.Proofs.Ytadghhajegpaiaa
open Go.RowKit
set_option linter.unusedVariables false
theorem Cursor.far {w : World} {g : Nat} {a : Option Addr} {len cap : Nat} {zs : List Int} (h : Cursor w g a len cap zs) {p : Addr} (hp : g < p.block) (u : Value) : Cursor (w.setCell p u) g a len cap zs := h.keep fun k hk => Below.heap_setCell _ _ _ _ (by omega)
theorem Cursor.drew {w : World} {g : Nat} {a : Option Addr} {len cap : Nat} {zs : List Int} (h : Cursor w g a len cap zs) : Cursor w.drew g a len cap zs := h.keep fun _ _ => rfl
def IsSmall (v : Value) : Prop := ∃ x y a b : Int, Pl.SmallR x y a b ∧ v = .agg #[.int .i64 x, .int .i64 y, .int .i64 a, .int .i64 b]
set_option maxHeartbeats 2000000 in
theorem l02Rect_any (g : Nat) (a : Option Addr) (len cap : Nat) (zs : List Int) (w : World) (hc : Cursor w g a len cap zs) : Calls Try.prog 62 #[.pointer (some ⟨g, 0, none⟩)] w (Drawn IsSmall w g a len cap zs) := by
  have HC := Lib.hid hc
  have hl := hc.lt
  clear hc
  go_enter Try.func62, Try.ntmps62
  go_wp2_with fail
  refine (l01Below_any g a len cap zs _ _ (HC.out.alloc _) (by omega) (by omega)).mono ?_
  rintro e w1 ⟨v, ⟨x, x0, x1, rfl⟩, rfl, C1, O1⟩
  have D1 := Lib.hid C1
  have s1 := O1.size
  simp at s1
  have ⟨k1, f1⟩ := O1.keep w.heap.size (by simp) (by omega)
  clear C1
  go_wp2_with fail
  refine (l01Below_any g a len cap zs _ _ D1.out (by omega) (by omega)).mono ?_
  rintro e w2 ⟨v, ⟨y, y0, y1, rfl⟩, rfl, C2, O2⟩
  have D2 := Lib.hid C2
  have s2 := O2.size
  have ⟨k2, f2⟩ := O2.keep w.heap.size (by omega) (by omega)
  clear C2
  go_wp2_with fail
  refine (l01Below_any g a len cap zs _ _ D2.out (by omega) (by omega)).mono ?_
  rintro e w3 ⟨v, ⟨z, z0, z1, rfl⟩, rfl, C3, O3⟩
  have D3 := Lib.hid C3
  have s3 := O3.size
  have ⟨k3, f3⟩ := O3.keep w.heap.size (by omega) (by omega)
  clear C3
  go_wp2_with fail
  refine (l01Below_any g a len cap zs _ _ D3.out (by omega) (by omega)).mono ?_
  rintro e w4 ⟨v, ⟨t, t0, t1, rfl⟩, rfl, C4, O4⟩
  have D4 := Lib.hid C4
  have s4 := O4.size
  have ⟨k4, f4⟩ := O4.keep w.heap.size (by omega) (by omega)
  clear C4
  go_wp2_with fail
  refine bodyPost_ret (v := .agg #[.int .i64 (x - 4), .int .i64 (y - 4), .int .i64 z, .int .i64 t]) (by simp [results, Try.results62, go_sem, k1, k2, k3, k4]) rfl ?_
  refine ⟨_, ⟨x - 4, y - 4, z, t, ⟨⟨by omega, by omega⟩, ⟨by omega, by omega⟩, ⟨z0, by omega⟩, ⟨t0, by omega⟩⟩, rfl⟩, rfl, ?_, ?_⟩
  · exact (((D4.out.far (p := ⟨w.heap.size, 0, none⟩) hl _).far (p := ⟨w.heap.size, 1, none⟩) hl _).far (p := ⟨w.heap.size, 2, none⟩) hl _).far (p := ⟨w.heap.size, 3, none⟩) hl _
  · have O : Out g (g + 1) w w4 := ((((Out.refl _ _ _).alloc _).trans O1).trans O2).trans (O3.trans O4)
    exact ⟨O.os, O.tape, O.output, by simpa [World.setCell] using O.size, fun k hk hg => by
      have e : ∀ (W : World) (o : Nat) (u : Value), (W.setCell ⟨w.heap.size, o, none⟩ u).heap[k]? = W.heap[k]? := fun W o u => Below.heap_setCell _ _ _ _ (by show k ≠ w.heap.size; omega)
      rw [e, e, e, e]
      exact O.block k hk hg⟩
def TwoRects (w : World) (e : Ending) (w' : World) : Prop := ∃ x y a b x2 y2 a2 b2 : Int, Pl.SmallR x y a b ∧ Pl.SmallR x2 y2 a2 b2 ∧ e = .returned (.tuple #[.agg #[.int .i64 x, .int .i64 y, .int .i64 a, .int .i64 b], .agg #[.int .i64 x2, .int .i64 y2, .int .i64 a2, .int .i64 b2]]) ∧ Below w.heap.size w w'
set_option maxHeartbeats 4000000 in
theorem drawRects (a : Option Addr) (len cap : Nat) (zs : List Int) (w : World) (hr : IsRow .u8 w a len cap zs) (hl : len ≤ 1048576) : Calls Try.prog 30 #[.slice a len cap] w (TwoRects w) := by
  have HR := Lib.hid (isRow_keep hr (w' := (w.alloc (.cells #[.int .i64 0, .int .i64 0, .int .i64 0, .int .i64 0] 27)).alloc (.cells #[.int .i64 0, .int .i64 0, .int .i64 0, .int .i64 0] 27)) fun x hx hcp => by
    have := isRow_lt hr x hx hcp
    rw [Below.heap_alloc _ _ _ (by simp; omega), Below.heap_alloc _ _ _ this])
  clear hr
  go_enter Try.func30, Try.ntmps30
  go_wp2_with fail
  refine (l01New_any a len cap zs _ HR.out hl).mono ?_
  rintro e w1 ⟨g, rfl, hg, C1, hb1, hs1⟩
  have D1 := Lib.hid C1
  simp only [World.size_alloc] at hg
  have g1 : w.heap.size + 1 + 1 ≤ g := by omega
  have g2 : g ≤ w.heap.size + 1 + 1 := by omega
  have ⟨k1, f1, y1⟩ := keep3 hb1 w.heap.size (by simp; omega)
  have ⟨j1, i1, z1⟩ := keep3 hb1 (w.heap.size + 1) (by simp)
  have B1 : Below w.heap.size w w1 := later (by go_grown) hb1
  have l1 := C1.lt
  clear C1 hg hs1
  go_wp2_with fail
  refine (l02Rect_any g a len cap zs _ D1.out).mono ?_
  rintro e w2 ⟨v, ⟨x, y, p, q, hS, rfl⟩, rfl, C2, O2⟩
  have D2 := Lib.hid C2
  have HS := Lib.hid hS
  have s2 := O2.size
  have ⟨k2, f2⟩ := O2.keep w.heap.size (by omega) (by omega)
  have ⟨j2, i2⟩ := O2.keep (w.heap.size + 1) (by omega) (by omega)
  clear C2 hS
  have u2 : w.heap.size < w2.heap.size := by omega
  have v2 : w.heap.size + 1 < w2.heap.size := by omega
  go_wp2_with fail
  go_region_held3 (fun w' => w'.cell? ⟨w2.heap.size, 0, none⟩ = some (.int .i64 x) ∧ w'.cell? ⟨w2.heap.size, 1, none⟩ = some (.int .i64 y) ∧ w'.cell? ⟨w2.heap.size, 2, none⟩ = some (.int .i64 p) ∧ w'.cell? ⟨w2.heap.size, 3, none⟩ = some (.int .i64 q)) (((try dsimp only); (repeat' apply And.intro) <;> (first | (simp only [World.cell?_drew, *]; done) | (simp (disch := (first | omega | (simp; omega))) only [cell_far, World.cell?_drew, *]; done) | (simp [go_sem]; done))))
    ((go_at_call 62; ((with_reducible refine (l02Rect_any g a len cap zs _ (Cursor.drew (D2.out.alloc _))).mono ?_)); rintro e w3 ⟨v, ⟨x', y', p', q', hS', rfl⟩, rfl, C3, O3⟩; have HS' := Lib.hid hS'; clear C3 hS'; have s3 := O3.size; (try simp at s3); have ⟨k3, f3⟩ := O3.keep w.heap.size (by simp; omega) (by omega); have ⟨j3, i3⟩ := O3.keep (w.heap.size + 1) (by simp; omega) (by omega); have ⟨l3, m3⟩ := O3.keep w2.heap.size (by simp) (by omega); have c30 := (l3 0).trans (show _ = some (Value.int .i64 x) by simp [go_sem]); have c31 := (l3 1).trans (show _ = some (Value.int .i64 y) by simp [go_sem]); have c32 := (l3 2).trans (show _ = some (Value.int .i64 p) by simp [go_sem]); have c33 := (l3 3).trans (show _ = some (Value.int .i64 q) by simp [go_sem]); clear l3 m3))
  go_wp2_with fail
  have e0 : w3.cell? ⟨w.heap.size, 0, none⟩ = some (.int .i64 0) := by rw [k3]; show (w2.alloc _).cell? _ = _; rw [cell_old u2, k2, k1]; simp [go_sem]
  have d0 : w3.cell? ⟨w.heap.size + 1, 0, none⟩ = some (.int .i64 0) := by rw [j3]; show (w2.alloc _).cell? _ = _; rw [cell_old v2, j2, j1]; simp [go_sem]
  have e1 : w3.cell? ⟨w.heap.size, 1, none⟩ = some (.int .i64 0) := by rw [k3]; show (w2.alloc _).cell? _ = _; rw [cell_old u2, k2, k1]; simp [go_sem]
  have d1 : w3.cell? ⟨w.heap.size + 1, 1, none⟩ = some (.int .i64 0) := by rw [j3]; show (w2.alloc _).cell? _ = _; rw [cell_old v2, j2, j1]; simp [go_sem]
  have e2 : w3.cell? ⟨w.heap.size, 2, none⟩ = some (.int .i64 0) := by rw [k3]; show (w2.alloc _).cell? _ = _; rw [cell_old u2, k2, k1]; simp [go_sem]
  have d2 : w3.cell? ⟨w.heap.size + 1, 2, none⟩ = some (.int .i64 0) := by rw [j3]; show (w2.alloc _).cell? _ = _; rw [cell_old v2, j2, j1]; simp [go_sem]
  have e3 : w3.cell? ⟨w.heap.size, 3, none⟩ = some (.int .i64 0) := by rw [k3]; show (w2.alloc _).cell? _ = _; rw [cell_old u2, k2, k1]; simp [go_sem]
  have d3 : w3.cell? ⟨w.heap.size + 1, 3, none⟩ = some (.int .i64 0) := by rw [j3]; show (w2.alloc _).cell? _ = _; rw [cell_old v2, j2, j1]; simp [go_sem]
  refine bodyPost_ret (v := .tuple #[.agg #[.int .i64 x, .int .i64 y, .int .i64 p, .int .i64 q], .agg #[.int .i64 x', .int .i64 y', .int .i64 p', .int .i64 q']]) (by simp [results, Try.results30, go_sem, e0, e1, e2, e3, d0, d1, d2, d3]) rfl ?_
  refine ⟨x, y, p, q, x', y', p', q', HS.out, HS'.out, rfl, ?_⟩
  have B2 : Below w.heap.size w w2 := below_out B1 O2 (by omega) (by omega)
  have B3 : Below w.heap.size w w3 := below_out (B2.alloc (by omega) _).drew O3 (by omega) (by simp; omega)
  go_grown
end Go.Proofs.Ytadghhajegpaiaa
