/- Contracts of the laws' draws: picks, numbers, rectangles, pixels. -/
import Derived.Test.YtepjjlaipindnaaDoorCur
import Derived.Test.YtepjjlaipindnaaDoorPix
import Derived.Deep.RegionHeld3
import Derived.Laws.OwnMore
namespace Go.Proofs.YtepjjlaipindnaaDoor
open Go.RowKit
set_option linter.unusedVariables false

theorem Cursor.alloc {w : World} {g : Nat} {a : Option Addr} {len cap : Nat} {zs : List Int} (h : Cursor w g a len cap zs) (o : Obj) : Cursor (w.alloc o) g a len cap zs := h.keep fun k hk => Below.heap_alloc _ _ _ (by have := h.lt; omega)
theorem Cursor.out {w w' : World} {g lo hi : Nat} {a : Option Addr} {len cap : Nat} {zs : List Int} (h : Cursor w g a len cap zs) (ho : Out lo hi w w') (hg : g < lo) : Cursor w' g a len cap zs := h.keep fun k hk => ho.block k (by have := h.lt; omega) (by omega)
/-- A literal slice of integers. -/
theorem Ints.lit (w : World) (zs : List Int) (hn : zs.length ≤ 1000) : Ints (w.alloc (.cells (zs.map (Value.int .i64)).toArray 3)) w.heap.size (w.heap.size + 1) (.slice (some ⟨w.heap.size, 0, none⟩) zs.length zs.length) zs := by
  have h := World.ownsRow_lit (base := w.heap.size) (e := 3) (size := 1) w (zs.map (Value.int .i64)).toArray zs.length (Nat.le_refl _) (by unfold maxLen; omega) (by simp)
  have h2 := Own.mono (hi' := w.heap.size + 1) (Own.of_row h) (Nat.le_refl _) (by simp) (by simp)
  unfold Ints
  simpa using h2
def Among (zs : List Int) (v : Value) : Prop := ∃ z, z ∈ zs ∧ v = .int .i64 z
theorem l01PickInt_any (g : Nat) (a : Option Addr) (len cap : Nat) (zs : List Int) (A : Option Addr) (n c lo hi : Nat) (xs : List Int) (w : World) (hc : Cursor w g a len cap zs) (HI : Ints w lo hi (.slice A n c) xs) (hg : g < lo) (h1 : 1 ≤ n) (h2 : n ≤ 1000) :
    Calls Tryd.prog 44 #[.pointer (some ⟨g, 0, none⟩), .slice A n c] w (Drawn (Among xs) w g a len cap zs) := by
  have HC := Lib.hid hc
  have G := Lib.hid HI
  clear hc HI
  go_enter Tryd.func44, Tryd.ntmps44
  go_wp2_with fail
  refine (l01Below_any g a len cap zs _ _ HC.out (by omega) (by omega)).mono ?_
  rintro e w1 ⟨v, ⟨x, x0, x1, rfl⟩, rfl, C1, O1⟩
  have D1 := Lib.hid C1
  clear C1
  have G1 := Lib.hid (G.out.out O1 (.inr (by omega)))
  obtain ⟨k, rfl⟩ := Int.eq_ofNat_of_zero_le x0
  obtain ⟨gg, z, rfl, _, _, e1, cc, _⟩ := G1.out.at_ (k := k) (by omega)
  have E1 := Lib.hid e1
  clear e1
  have hk : k < n := by omega
  go_wp2_with fail
  go_ret
  exact ⟨_, ⟨z, List.mem_of_getElem? E1.out, rfl⟩, rfl, D1.out, O1⟩
def AnyInt (v : Value) : Prop := IntIn (-9223372036854775808) 9223372036854775807 v
def odd10 : List Int := [-1, 0, 127, 128, 16383, 16384, 1000000000, 1000000001, 9223372036854775807, -9223372036854775808]
set_option maxRecDepth 100000 in
theorem l01Number_any (g : Nat) (a : Option Addr) (len cap : Nat) (zs : List Int) (w : World) (hc : Cursor w g a len cap zs) : Calls Tryd.prog 33 #[.pointer (some ⟨g, 0, none⟩)] w (Drawn AnyInt w g a len cap zs) := by
  have HC := Lib.hid hc
  clear hc
  go_enter Tryd.func33, Tryd.ntmps33
  go_wp2_with fail
  refine (l01Below_any g a len cap zs _ _ HC.out (by omega) (by omega)).mono ?_
  rintro e w1 ⟨v, ⟨x, x0, x1, rfl⟩, rfl, C1, O1⟩
  have D1 := Lib.hid C1
  have hl := C1.lt
  clear C1
  by_cases h0 : x = 0
  · subst h0
    go_wp2_with fail
    refine (l01PickInt_any g a len cap zs _ _ _ w1.heap.size (w1.heap.size + 1) odd10 _ (D1.out.alloc _) (Ints.lit w1 odd10 (by simp [odd10])) hl (by simp [odd10]) (by simp [odd10])).mono ?_
    rintro e w2 ⟨v, ⟨z, hz, rfl⟩, rfl, C2, O2⟩
    have D2 := Lib.hid C2
    clear C2
    have hz2 : -9223372036854775808 ≤ z ∧ z ≤ 9223372036854775807 := by simp [odd10] at hz; omega
    clear hz
    go_wp2_with fail
    go_ret
    exact ⟨_, ⟨z, hz2.1, hz2.2, rfl⟩, rfl, D2.out, (O1.alloc _).trans O2⟩
  · by_cases h1 : x = 1
    · subst h1
      go_wp2_with fail
      refine (l01Below_any g a len cap zs _ _ D1.out (by omega) (by omega)).mono ?_
      rintro e w2 ⟨v, ⟨y, y0, y1, rfl⟩, rfl, C2, O2⟩
      have D2 := Lib.hid C2
      clear C2
      go_wp2_with fail
      go_ret
      exact ⟨_, ⟨y, by omega, by omega, rfl⟩, rfl, D2.out, O1.trans O2⟩
    · have b0 : (x == 0) = false := by simpa using h0
      have b1 : (x == 1) = false := by simpa using h1
      go_wp2_with fail
      refine (l01Below_any g a len cap zs _ _ D1.out (by omega) (by omega)).mono ?_
      rintro e w2 ⟨v, ⟨y, y0, y1, rfl⟩, rfl, C2, O2⟩
      have D2 := Lib.hid C2
      clear C2
      go_wp2_with fail
      go_ret
      exact ⟨_, ⟨y, by omega, by omega, rfl⟩, rfl, D2.out, O1.trans O2⟩
end Go.Proofs.YtepjjlaipindnaaDoor
