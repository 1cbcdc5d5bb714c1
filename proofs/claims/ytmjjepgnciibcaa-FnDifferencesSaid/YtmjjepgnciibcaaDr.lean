/- Contracts of the laws' draws: picks, numbers, rectangles, pixels. -/
import Derived.Test.YtmjjepgnciibcaaCur
import Derived.Test.YtmjjepgnciibcaaPix
import Derived.Deep.RegionHeld3
import Derived.Laws.OwnMore
namespace Go.Proofs.Ytmjjepgnciibcaa
open Go.RowKit
set_option linter.unusedVariables false

theorem Cursor.alloc {w : World} {g : Nat} {a : Option Addr} {len cap : Nat} {zs : List Int} (h : Cursor w g a len cap zs) (o : Obj) : Cursor (w.alloc o) g a len cap zs := h.keep fun k hk => Below.heap_alloc _ _ _ (by have := h.lt; omega)
theorem Cursor.out {w w' : World} {g lo hi : Nat} {a : Option Addr} {len cap : Nat} {zs : List Int} (h : Cursor w g a len cap zs) (ho : Out lo hi w w') (hg : g < lo) : Cursor w' g a len cap zs := h.keep fun k hk => ho.block k (by have := h.lt; omega) (by omega)
/-- A literal slice of integers. -/
theorem Ints.lit (w : World) (zs : List Int) (hn : zs.length ≤ 1000) : Ints (w.alloc (.cells (zs.map (Value.int .i64)).toArray 3)) w.heap.size (w.heap.size + 1) (.slice (some ⟨w.heap.size, 0, none⟩) zs.length zs.length) zs := by
  have h := World.ownsRow_lit (base := w.heap.size) (e := 3) (size := 1) w (zs.map (Value.int .i64)).toArray zs.length (Nat.le_refl _) (by unfold maxLen; omega) (by simp)
  have h2 := Own.mono (hi' := w.heap.size + 1) (Own.of_row h) (Nat.le_refl _) (by simp) (by simp)
  unfold Ints
  simpa using h2
def Among (zs : List Int) (v : Value) : Prop := ∃ z, z ∈ zs ∧ v = .int .i64 z
theorem l01PickInt_any (g : Nat) (a : Option Addr) (len cap : Nat) (zs : List Int) (A : Option Addr) (n c lo hi : Nat) (xs : List Int) (w : World) (hc : Cursor w g a len cap zs) (HI : Ints w lo hi (.slice A n c) xs) (hg : g < lo) (h1 : 1 ≤ n) (h2 : n ≤ 1000) :
    Calls Try.prog 80 #[.pointer (some ⟨g, 0, none⟩), .slice A n c] w (Drawn (Among xs) w g a len cap zs) := by
  have HC := Lib.hid hc
  have G := Lib.hid HI
  clear hc HI
  go_enter Try.func80, Try.ntmps80
  go_wp2_with fail
  refine (l01Below_any g a len cap zs _ _ HC.out (by omega) (by omega)).mono ?_
  rintro e w1 ⟨v, ⟨x, x0, x1, rfl⟩, rfl, C1, O1⟩
  have D1 := Lib.hid C1
  clear C1
  have G1 := Lib.hid (G.out.out O1 (.inr (by omega)))
  obtain ⟨k, rfl⟩ := Int.eq_ofNat_of_zero_le x0
  obtain ⟨gg, z, rfl, _, _, e1, cc, _⟩ := G1.out.at_ (k := k) (by omega)
  have E1 := Lib.hid e1
  clear e1
  have hk : k < n := by omega
  go_wp2_with fail
  go_ret
  exact ⟨_, ⟨z, List.mem_of_getElem? E1.out, rfl⟩, rfl, D1.out, O1⟩
theorem l04Byte_any (g : Nat) (a : Option Addr) (len cap : Nat) (zs : List Int) (w : World) (hc : Cursor w g a len cap zs) : Calls Try.prog 81 #[.pointer (some ⟨g, 0, none⟩)] w (Drawn (IntIn 0 255) w g a len cap zs) := by
  have HC := Lib.hid hc
  clear hc
  go_enter Try.func81, Try.ntmps81
  go_wp2_with fail
  refine (l01Below_any g a len cap zs _ _ HC.out (by omega) (by omega)).mono ?_
  rintro e w1 ⟨v, ⟨x, x0, x1, rfl⟩, rfl, C1, O1⟩
  have D1 := Lib.hid C1
  have hl := C1.lt
  clear C1
  go_wp2_with fail
  refine (l01PickInt_any g a len cap zs _ _ _ w1.heap.size (w1.heap.size + 1) [0, 255, 127, 128, 1, 254, x] _ (D1.out.alloc _) (Ints.lit w1 [0, 255, 127, 128, 1, 254, x] (by simp)) hl (by simp) (by simp)).mono ?_
  rintro e w2 ⟨v, ⟨z, hz, rfl⟩, rfl, C2, O2⟩
  have D2 := Lib.hid C2
  clear C2
  have hz2 : 0 ≤ z ∧ z ≤ 255 := by simp at hz; omega
  clear hz
  go_wp2_with fail
  go_ret
  exact ⟨_, ⟨z, hz2.1, hz2.2, rfl⟩, rfl, D2.out, (O1.alloc _).trans O2⟩
def IsPixel (v : Value) : Prop := ∃ p, Pl.isPix p = true ∧ v = .int .i64 p
theorem makePixel_ok {x y z q : Int} (h1 : 0 ≤ x ∧ x ≤ 255) (h2 : 0 ≤ y ∧ y ≤ 255) (h3 : 0 ≤ z ∧ z ≤ 255) (h4 : 0 ≤ q ∧ q ≤ 255) : Pl.isPix (Pl.makePixel x y z q) = true := by
  simp only [Pl.makePixel, Pl.inB_mk h1, Pl.inB_mk h2, Pl.inB_mk h3, Pl.inB_mk h4, Bool.and_self, if_true]
  exact Pl.inB_mk (by omega)
theorem l04Draw_any (g : Nat) (a : Option Addr) (len cap : Nat) (zs : List Int) (w : World) (hc : Cursor w g a len cap zs) : Calls Try.prog 75 #[.pointer (some ⟨g, 0, none⟩)] w (Drawn IsPixel w g a len cap zs) := by
  have HC := Lib.hid hc
  clear hc
  go_enter Try.func75, Try.ntmps75
  go_wp2_with fail
  refine (l01Below_any g a len cap zs _ _ HC.out (by omega) (by omega)).mono ?_
  rintro e w1 ⟨v, ⟨x, x0, x1, rfl⟩, rfl, C1, O1⟩
  have D1 := Lib.hid C1
  have hl := C1.lt
  clear C1
  go_wp2_with fail
  refine (l01PickInt_any g a len cap zs _ _ _ w1.heap.size (w1.heap.size + 1) [255, 255, 255, 0, 128, 200, x] _ (D1.out.alloc _) (Ints.lit w1 [255, 255, 255, 0, 128, 200, x] (by simp)) hl (by simp) (by simp)).mono ?_
  rintro e w2 ⟨v, ⟨z, hz, rfl⟩, rfl, C2, O2⟩
  have D2 := Lib.hid C2
  clear C2
  have hz2 : 0 ≤ z ∧ z ≤ 255 := by simp at hz; omega
  clear hz
  go_wp2_with fail
  refine (l04Byte_any g a len cap zs _ D2.out).mono ?_
  rintro e w3 ⟨v, ⟨r, r0, r1, rfl⟩, rfl, C3, O3⟩
  have D3 := Lib.hid C3
  clear C3
  go_wp2_with fail
  refine (l04Byte_any g a len cap zs _ D3.out).mono ?_
  rintro e w4 ⟨v, ⟨s, s0, s1, rfl⟩, rfl, C4, O4⟩
  have D4 := Lib.hid C4
  clear C4
  go_wp2_with fail
  refine (l04Byte_any g a len cap zs _ D4.out).mono ?_
  rintro e w5 ⟨v, ⟨t, t0, t1, rfl⟩, rfl, C5, O5⟩
  have D5 := Lib.hid C5
  clear C5
  go_wp2_with fail
  refine (specMakePixel _ _ _ _ _).mono ?_
  rintro e w' ⟨rfl, rfl⟩
  go_wp2_with fail
  go_ret
  exact ⟨_, ⟨_, makePixel_ok hz2 ⟨r0, r1⟩ ⟨s0, s1⟩ ⟨t0, t1⟩, rfl⟩, rfl, D5.out, ((((O1.alloc _).trans O2).trans O3).trans O4).trans O5⟩
end Go.Proofs.Ytmjjepgnciibcaa
