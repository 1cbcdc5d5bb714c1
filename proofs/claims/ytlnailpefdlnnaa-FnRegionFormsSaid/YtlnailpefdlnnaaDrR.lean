/- Contracts of the laws' draws: rectangles of any kind, lists of them, regions. -/
import Derived.Test.YtlnailpefdlnnaaDr2
import Derived.Test.YtlnailpefdlnnaaSReg
import Derived.Deep.AppendLies
namespace Go.Proofs.Ytlnailpefdlnnaa
open Go.RowKit
set_option linter.unusedVariables false
set_option linter.unusedSimpArgs false
def IsR (v : Value) : Prop := ∃ r : Pl.R, v = .agg #[.int .i64 r.x, .int .i64 r.y, .int .i64 r.w, .int .i64 r.h]
set_option maxHeartbeats 4000000 in
theorem l02Any_any (g : Nat) (a : Option Addr) (len cap : Nat) (zs : List Int) (w : World) (hc : Cursor w g a len cap zs) : Calls Try.prog 72 #[.pointer (some ⟨g, 0, none⟩)] w (Drawn IsR w g a len cap zs) := by
  have HC := Lib.hid hc
  have hl := hc.lt
  clear hc
  go_enter Try.func72, Try.ntmps72
  go_wp2_with fail
  refine (l02Rect_any g a len cap zs _ (HC.out.alloc _)).mono ?_
  rintro e w1 ⟨v, ⟨x, y, p, q, _, rfl⟩, rfl, C1, O1⟩
  have VR1 := Lib.hid (VB.out (VB.new (w := w) (b := w.heap.size) (t := 44) (cs := [.int .i64 0, .int .i64 0, .int .i64 0, .int .i64 0]) rfl) O1 (by omega))
  have OO1 : Hid (Out g (g + 1) w w1) := Lib.hid (((Out.refl _ _ _).alloc _).trans O1)
  have D1 := Lib.hid C1
  have hl1 := C1.lt
  have lr1 := VR1.out.lt
  clear C1 O1
  go_wp2_with fail
  refine (l01Below_any g a len cap zs _ _ (D1.out.alloc _) (by omega) (by omega)).mono ?_
  rintro e w2 ⟨v, ⟨n, n0, n1, rfl⟩, rfl, C2, O2⟩
  have VR2 := Lib.hid ((VR1.out.alloc (.cells #[.int .i64 x, .int .i64 y, .int .i64 p, .int .i64 q] 44 (0, 0))).out O2 (by omega))
  have VT2 := Lib.hid (VB.out (VB.new (w := w1) (b := w1.heap.size) (t := 44) (cs := [.int .i64 x, .int .i64 y, .int .i64 p, .int .i64 q]) rfl) O2 (by omega))
  have OO2 : Hid (Out g (g + 1) w w2) := Lib.hid ((OO1.out.alloc _).trans O2)
  have D2 := Lib.hid C2
  have hl2 := C2.lt
  have lr2 := VR2.out.lt
  have lt2 := VT2.out.lt
  clear C2 O2
  have hgw : g < w1.heap.size := hl1
  have hww := OO1.out.size
  by_cases hn0 : n = 0
  · subst hn0
    go_wp2_with fail
    refine (l01PickInt_any g a len cap zs _ _ _ w2.heap.size (w2.heap.size + 1) [-1001, -1000, 1000, 1001, 9223372036854775807, -9223372036854775808] _ (D2.out.alloc _) (Ints.lit w2 [-1001, -1000, 1000, 1001, 9223372036854775807, -9223372036854775808] (by simp)) hl2 (by simp) (by simp)).mono ?_
    rintro e w3 ⟨v, ⟨z, hz, rfl⟩, rfl, C3, O3⟩
    have VR3 := Lib.hid ((VR2.out.alloc (.cells #[.int .i64 (-1001), .int .i64 (-1000), .int .i64 (1000), .int .i64 (1001), .int .i64 (9223372036854775807), .int .i64 (-9223372036854775808)] 3 (0, 0))).out O3 (by omega))
    have VT3 := Lib.hid ((VT2.out.alloc (.cells #[.int .i64 (-1001), .int .i64 (-1000), .int .i64 (1000), .int .i64 (1001), .int .i64 (9223372036854775807), .int .i64 (-9223372036854775808)] 3 (0, 0))).out O3 (by omega))
    have OO3 : Hid (Out g (g + 1) w w3) := Lib.hid ((OO2.out.alloc _).trans O3)
    have D3 := Lib.hid C3
    clear C3 O3 hz
    obtain ⟨lr3, r0, r1, r2, r3, fr0, fr1, fr2, fr3⟩ := VR3.out.open4
    obtain ⟨lt3, t0, t1, t2, t3, ft0, ft1, ft2, ft3⟩ := VT3.out.open4
    go_wp2_with fail
    refine bodyPost_ret (v := .agg #[.int .i64 z, .int .i64 y, .int .i64 p, .int .i64 q]) (by simp [results, Try.results72, go_sem, r0, r1, r2, r3]) rfl ⟨_, ⟨⟨z, y, p, q⟩, rfl⟩, rfl, ?_, ?_⟩
    · exact (Cursor.far (p := ⟨w.heap.size, 3, none⟩) ((Cursor.far (p := ⟨w.heap.size, 2, none⟩) ((Cursor.far (p := ⟨w.heap.size, 1, none⟩) ((Cursor.far (p := ⟨w.heap.size, 0, none⟩) ((Cursor.far (p := ⟨w1.heap.size, 0, none⟩) (D3.out) (by show g < w1.heap.size; omega) _)) (by show g < w.heap.size; omega) _)) (by show g < w.heap.size; omega) _)) (by show g < w.heap.size; omega) _)) (by show g < w.heap.size; omega) _)
    · have O := OO3.out
      exact ⟨O.os, O.tape, O.output, by simpa [World.setCell] using O.size, fun k hk hg => by
        have e4 : ∀ (W : World) (o : Nat) (u : Value), (W.setCell ⟨w.heap.size, o, none⟩ u).heap[k]? = W.heap[k]? := fun W o u => Below.heap_setCell _ _ _ _ (by show k ≠ w.heap.size; omega)
        have e5 : ∀ (W : World) (o : Nat) (u : Value), (W.setCell ⟨w1.heap.size, o, none⟩ u).heap[k]? = W.heap[k]? := fun W o u => Below.heap_setCell _ _ _ _ (by show k ≠ w1.heap.size; omega)
        rw [e4, e4, e4, e4, e5]
        exact O.block k hk hg⟩
  · by_cases hn1 : n = 1
    · subst hn1
      go_wp2_with fail
      refine (l01PickInt_any g a len cap zs _ _ _ w2.heap.size (w2.heap.size + 1) [-1, 1000, 1001] _ (D2.out.alloc _) (Ints.lit w2 [-1, 1000, 1001] (by simp)) hl2 (by simp) (by simp)).mono ?_
      rintro e w3 ⟨v, ⟨z, hz, rfl⟩, rfl, C3, O3⟩
      have VR3 := Lib.hid ((VR2.out.alloc (.cells #[.int .i64 (-1), .int .i64 (1000), .int .i64 (1001)] 3 (0, 0))).out O3 (by omega))
      have VT3 := Lib.hid ((VT2.out.alloc (.cells #[.int .i64 (-1), .int .i64 (1000), .int .i64 (1001)] 3 (0, 0))).out O3 (by omega))
      have OO3 : Hid (Out g (g + 1) w w3) := Lib.hid ((OO2.out.alloc _).trans O3)
      have D3 := Lib.hid C3
      clear C3 O3 hz
      obtain ⟨lr3, r0, r1, r2, r3, fr0, fr1, fr2, fr3⟩ := VR3.out.open4
      obtain ⟨lt3, t0, t1, t2, t3, ft0, ft1, ft2, ft3⟩ := VT3.out.open4
      go_wp2_with fail
      refine bodyPost_ret (v := .agg #[.int .i64 x, .int .i64 y, .int .i64 z, .int .i64 q]) (by simp [results, Try.results72, go_sem, r0, r1, r2, r3]) rfl ⟨_, ⟨⟨x, y, z, q⟩, rfl⟩, rfl, ?_, ?_⟩
      · exact (Cursor.far (p := ⟨w.heap.size, 3, none⟩) ((Cursor.far (p := ⟨w.heap.size, 2, none⟩) ((Cursor.far (p := ⟨w.heap.size, 1, none⟩) ((Cursor.far (p := ⟨w.heap.size, 0, none⟩) ((Cursor.far (p := ⟨w1.heap.size, 2, none⟩) (D3.out) (by show g < w1.heap.size; omega) _)) (by show g < w.heap.size; omega) _)) (by show g < w.heap.size; omega) _)) (by show g < w.heap.size; omega) _)) (by show g < w.heap.size; omega) _)
      · have O := OO3.out
        exact ⟨O.os, O.tape, O.output, by simpa [World.setCell] using O.size, fun k hk hg => by
          have e4 : ∀ (W : World) (o : Nat) (u : Value), (W.setCell ⟨w.heap.size, o, none⟩ u).heap[k]? = W.heap[k]? := fun W o u => Below.heap_setCell _ _ _ _ (by show k ≠ w.heap.size; omega)
          have e5 : ∀ (W : World) (o : Nat) (u : Value), (W.setCell ⟨w1.heap.size, o, none⟩ u).heap[k]? = W.heap[k]? := fun W o u => Below.heap_setCell _ _ _ _ (by show k ≠ w1.heap.size; omega)
          rw [e4, e4, e4, e4, e5]
          exact O.block k hk hg⟩
    · have e0 : (n == 0) = false := by simpa using hn0
      have e1 : (n == 1) = false := by simpa using hn1
      obtain ⟨lr2, r0, r1, r2, r3, fr0, fr1, fr2, fr3⟩ := VR2.out.open4
      obtain ⟨lt2, t0, t1, t2, t3, ft0, ft1, ft2, ft3⟩ := VT2.out.open4
      go_wp2_with fail
      refine bodyPost_ret (v := .agg #[.int .i64 x, .int .i64 y, .int .i64 p, .int .i64 q]) (by simp [results, Try.results72, go_sem, r0, r1, r2, r3]) rfl ⟨_, ⟨⟨x, y, p, q⟩, rfl⟩, rfl, ?_, ?_⟩
      · exact (Cursor.far (p := ⟨w.heap.size, 3, none⟩) ((Cursor.far (p := ⟨w.heap.size, 2, none⟩) ((Cursor.far (p := ⟨w.heap.size, 1, none⟩) ((Cursor.far (p := ⟨w.heap.size, 0, none⟩) (D2.out) (by show g < w.heap.size; omega) _)) (by show g < w.heap.size; omega) _)) (by show g < w.heap.size; omega) _)) (by show g < w.heap.size; omega) _)
      · have O := OO2.out
        exact ⟨O.os, O.tape, O.output, by simpa [World.setCell] using O.size, fun k hk hg => by
          have e4 : ∀ (W : World) (o : Nat) (u : Value), (W.setCell ⟨w.heap.size, o, none⟩ u).heap[k]? = W.heap[k]? := fun W o u => Below.heap_setCell _ _ _ _ (by show k ≠ w.heap.size; omega)
          rw [e4, e4, e4, e4]
          exact O.block k hk hg⟩
end Go.Proofs.Ytlnailpefdlnnaa
