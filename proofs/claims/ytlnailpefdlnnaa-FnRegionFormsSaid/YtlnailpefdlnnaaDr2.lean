/- Contracts of the laws' draws: small rectangles. -/
import Derived.Test.YtlnailpefdlnnaaDr
import Derived.Test.YtlnailpefdlnnaaRect
import Derived.Test.YtlnailpefdlnnaaRectLaw
namespace Go.Proofs.Ytlnailpefdlnnaa
open Go.RowKit
set_option linter.unusedVariables false
theorem Cursor.far {w : World} {g : Nat} {a : Option Addr} {len cap : Nat} {zs : List Int} (h : Cursor w g a len cap zs) {p : Addr} (hp : g < p.block) (u : Value) : Cursor (w.setCell p u) g a len cap zs := h.keep fun k hk => Below.heap_setCell _ _ _ _ (by omega)
theorem Cursor.drew {w : World} {g : Nat} {a : Option Addr} {len cap : Nat} {zs : List Int} (h : Cursor w g a len cap zs) : Cursor w.drew g a len cap zs := h.keep fun _ _ => rfl
def IsSmall (v : Value) : Prop := ∃ x y a b : Int, Pl.SmallR x y a b ∧ v = .agg #[.int .i64 x, .int .i64 y, .int .i64 a, .int .i64 b]
set_option maxHeartbeats 2000000 in
theorem l02Rect_any (g : Nat) (a : Option Addr) (len cap : Nat) (zs : List Int) (w : World) (hc : Cursor w g a len cap zs) : Calls Try.prog 74 #[.pointer (some ⟨g, 0, none⟩)] w (Drawn IsSmall w g a len cap zs) := by
  have HC := Lib.hid hc
  have hl := hc.lt
  clear hc
  go_enter Try.func74, Try.ntmps74
  go_wp2_with fail
  refine (l01Below_any g a len cap zs _ _ (HC.out.alloc _) (by omega) (by omega)).mono ?_
  rintro e w1 ⟨v, ⟨x, x0, x1, rfl⟩, rfl, C1, O1⟩
  have D1 := Lib.hid C1
  have s1 := O1.size
  simp at s1
  have ⟨k1, f1⟩ := O1.keep w.heap.size (by simp) (by omega)
  clear C1
  go_wp2_with fail
  refine (l01Below_any g a len cap zs _ _ D1.out (by omega) (by omega)).mono ?_
  rintro e w2 ⟨v, ⟨y, y0, y1, rfl⟩, rfl, C2, O2⟩
  have D2 := Lib.hid C2
  have s2 := O2.size
  have ⟨k2, f2⟩ := O2.keep w.heap.size (by omega) (by omega)
  clear C2
  go_wp2_with fail
  refine (l01Below_any g a len cap zs _ _ D2.out (by omega) (by omega)).mono ?_
  rintro e w3 ⟨v, ⟨z, z0, z1, rfl⟩, rfl, C3, O3⟩
  have D3 := Lib.hid C3
  have s3 := O3.size
  have ⟨k3, f3⟩ := O3.keep w.heap.size (by omega) (by omega)
  clear C3
  go_wp2_with fail
  refine (l01Below_any g a len cap zs _ _ D3.out (by omega) (by omega)).mono ?_
  rintro e w4 ⟨v, ⟨t, t0, t1, rfl⟩, rfl, C4, O4⟩
  have D4 := Lib.hid C4
  have s4 := O4.size
  have ⟨k4, f4⟩ := O4.keep w.heap.size (by omega) (by omega)
  clear C4
  go_wp2_with fail
  refine bodyPost_ret (v := .agg #[.int .i64 (x - 4), .int .i64 (y - 4), .int .i64 z, .int .i64 t]) (by simp [results, Try.results74, go_sem, k1, k2, k3, k4]) rfl ?_
  refine ⟨_, ⟨x - 4, y - 4, z, t, ⟨⟨by omega, by omega⟩, ⟨by omega, by omega⟩, ⟨z0, by omega⟩, ⟨t0, by omega⟩⟩, rfl⟩, rfl, ?_, ?_⟩
  · exact (((D4.out.far (p := ⟨w.heap.size, 0, none⟩) hl _).far (p := ⟨w.heap.size, 1, none⟩) hl _).far (p := ⟨w.heap.size, 2, none⟩) hl _).far (p := ⟨w.heap.size, 3, none⟩) hl _
  · have O : Out g (g + 1) w w4 := ((((Out.refl _ _ _).alloc _).trans O1).trans O2).trans (O3.trans O4)
    exact ⟨O.os, O.tape, O.output, by simpa [World.setCell] using O.size, fun k hk hg => by
      have e : ∀ (W : World) (o : Nat) (u : Value), (W.setCell ⟨w.heap.size, o, none⟩ u).heap[k]? = W.heap[k]? := fun W o u => Below.heap_setCell _ _ _ _ (by show k ≠ w.heap.size; omega)
      rw [e, e, e, e]
      exact O.block k hk hg⟩
end Go.Proofs.Ytlnailpefdlnnaa
