/- Contracts of the laws' draws: picks, numbers, rectangles, pixels. -/
import Derived.Test.YtadghhajegpaiaaCur
import Derived.Test.YtadghhajegpaiaaPix
import Derived.Deep.RegionHeld3
import Derived.Laws.OwnMore
namespace Go.Proofs.Ytadghhajegpaiaa
open Go.RowKit
set_option linter.unusedVariables false

theorem Cursor.alloc {w : World} {g : Nat} {a : Option Addr} {len cap : Nat} {zs : List Int} (h : Cursor w g a len cap zs) (o : Obj) : Cursor (w.alloc o) g a len cap zs := h.keep fun k hk => Below.heap_alloc _ _ _ (by have := h.lt; omega)
theorem Cursor.out {w w' : World} {g lo hi : Nat} {a : Option Addr} {len cap : Nat} {zs : List Int} (h : Cursor w g a len cap zs) (ho : Out lo hi w w') (hg : g < lo) : Cursor w' g a len cap zs := h.keep fun k hk => ho.block k (by have := h.lt; omega) (by omega)
/-- A literal slice of integers. -/
theorem Ints.lit (w : World) (zs : List Int) (hn : zs.length ≤ 1000) : Ints (w.alloc (.cells (zs.map (Value.int .i64)).toArray 3)) w.heap.size (w.heap.size + 1) (.slice (some ⟨w.heap.size, 0, none⟩) zs.length zs.length) zs := by
  have h := World.ownsRow_lit (base := w.heap.size) (e := 3) (size := 1) w (zs.map (Value.int .i64)).toArray zs.length (Nat.le_refl _) (by unfold maxLen; omega) (by simp)
  have h2 := Own.mono (hi' := w.heap.size + 1) (Own.of_row h) (Nat.le_refl _) (by simp) (by simp)
  unfold Ints
  simpa using h2
def Among (zs : List Int) (v : Value) : Prop := ∃ z, z ∈ zs ∧ v = .int .i64 z
theorem l01PickInt_any (g : Nat) (a : Option Addr) (len cap : Nat) (zs : List Int) (A : Option Addr) (n c lo hi : Nat) (xs : List Int) (w : World) (hc : Cursor w g a len cap zs) (HI : Ints w lo hi (.slice A n c) xs) (hg : g < lo) (h1 : 1 ≤ n) (h2 : n ≤ 1000) :
    Calls Try.prog 71 #[.pointer (some ⟨g, 0, none⟩), .slice A n c] w (Drawn (Among xs) w g a len cap zs) := by
  have HC := Lib.hid hc
  have G := Lib.hid HI
  clear hc HI
  go_enter Try.func71, Try.ntmps71
  go_wp2_with fail
  refine (l01Below_any g a len cap zs _ _ HC.out (by omega) (by omega)).mono ?_
  rintro e w1 ⟨v, ⟨x, x0, x1, rfl⟩, rfl, C1, O1⟩
  have D1 := Lib.hid C1
  clear C1
  have G1 := Lib.hid (G.out.out O1 (.inr (by omega)))
  obtain ⟨k, rfl⟩ := Int.eq_ofNat_of_zero_le x0
  obtain ⟨gg, z, rfl, _, _, e1, cc, _⟩ := G1.out.at_ (k := k) (by omega)
  have E1 := Lib.hid e1
  clear e1
  have hk : k < n := by omega
  go_wp2_with fail
  go_ret
  exact ⟨_, ⟨z, List.mem_of_getElem? E1.out, rfl⟩, rfl, D1.out, O1⟩
theorem l04Byte_any (g : Nat) (a : Option Addr) (len cap : Nat) (zs : List Int) (w : World) (hc : Cursor w g a len cap zs) : Calls Try.prog 72 #[.pointer (some ⟨g, 0, none⟩)] w (Drawn (IntIn 0 255) w g a len cap zs) := by
  have HC := Lib.hid hc
  clear hc
  go_enter Try.func72, Try.ntmps72
  go_wp2_with fail
  refine (l01Below_any g a len cap zs _ _ HC.out (by omega) (by omega)).mono ?_
  rintro e w1 ⟨v, ⟨x, x0, x1, rfl⟩, rfl, C1, O1⟩
  have D1 := Lib.hid C1
  have hl := C1.lt
  clear C1
  go_wp2_with fail
  refine (l01PickInt_any g a len cap zs _ _ _ w1.heap.size (w1.heap.size + 1) [0, 255, 127, 128, 1, 254, x] _ (D1.out.alloc _) (Ints.lit w1 [0, 255, 127, 128, 1, 254, x] (by simp)) hl (by simp) (by simp)).mono ?_
  rintro e w2 ⟨v, ⟨z, hz, rfl⟩, rfl, C2, O2⟩
  have D2 := Lib.hid C2
  clear C2
  have hz2 : 0 ≤ z ∧ z ≤ 255 := by simp at hz; omega
  clear hz
  go_wp2_with fail
  go_ret
  exact ⟨_, ⟨z, hz2.1, hz2.2, rfl⟩, rfl, D2.out, (O1.alloc _).trans O2⟩
def IsPixel (v : Value) : Prop := ∃ p, Pl.isPix p = true ∧ v = .int .i64 p
theorem makePixel_ok {x y z q : Int} (h1 : 0 ≤ x ∧ x ≤ 255) (h2 : 0 ≤ y ∧ y ≤ 255) (h3 : 0 ≤ z ∧ z ≤ 255) (h4 : 0 ≤ q ∧ q ≤ 255) : Pl.isPix (Pl.makePixel x y z q) = true := by
  simp only [Pl.makePixel, Pl.inB_mk h1, Pl.inB_mk h2, Pl.inB_mk h3, Pl.inB_mk h4, Bool.and_self, if_true]
  exact Pl.inB_mk (by omega)
theorem l04Draw_any (g : Nat) (a : Option Addr) (len cap : Nat) (zs : List Int) (w : World) (hc : Cursor w g a len cap zs) : Calls Try.prog 63 #[.pointer (some ⟨g, 0, none⟩)] w (Drawn IsPixel w g a len cap zs) := by
  have HC := Lib.hid hc
  clear hc
  go_enter Try.func63, Try.ntmps63
  go_wp2_with fail
  refine (l01Below_any g a len cap zs _ _ HC.out (by omega) (by omega)).mono ?_
  rintro e w1 ⟨v, ⟨x, x0, x1, rfl⟩, rfl, C1, O1⟩
  have D1 := Lib.hid C1
  have hl := C1.lt
  clear C1
  go_wp2_with fail
  refine (l01PickInt_any g a len cap zs _ _ _ w1.heap.size (w1.heap.size + 1) [255, 255, 255, 0, 128, 200, x] _ (D1.out.alloc _) (Ints.lit w1 [255, 255, 255, 0, 128, 200, x] (by simp)) hl (by simp) (by simp)).mono ?_
  rintro e w2 ⟨v, ⟨z, hz, rfl⟩, rfl, C2, O2⟩
  have D2 := Lib.hid C2
  clear C2
  have hz2 : 0 ≤ z ∧ z ≤ 255 := by simp at hz; omega
  clear hz
  go_wp2_with fail
  refine (l04Byte_any g a len cap zs _ D2.out).mono ?_
  rintro e w3 ⟨v, ⟨r, r0, r1, rfl⟩, rfl, C3, O3⟩
  have D3 := Lib.hid C3
  clear C3
  go_wp2_with fail
  refine (l04Byte_any g a len cap zs _ D3.out).mono ?_
  rintro e w4 ⟨v, ⟨s, s0, s1, rfl⟩, rfl, C4, O4⟩
  have D4 := Lib.hid C4
  clear C4
  go_wp2_with fail
  refine (l04Byte_any g a len cap zs _ D4.out).mono ?_
  rintro e w5 ⟨v, ⟨t, t0, t1, rfl⟩, rfl, C5, O5⟩
  have D5 := Lib.hid C5
  clear C5
  go_wp2_with fail
  refine (specMakePixel _ _ _ _ _).mono ?_
  rintro e w' ⟨rfl, rfl⟩
  go_wp2_with fail
  go_ret
  exact ⟨_, ⟨_, makePixel_ok hz2 ⟨r0, r1⟩ ⟨s0, s1⟩ ⟨t0, t1⟩, rfl⟩, rfl, D5.out, ((((O1.alloc _).trans O2).trans O3).trans O4).trans O5⟩
def TwoPixels (w : World) (e : Ending) (w' : World) : Prop := ∃ p q, Pl.isPix p = true ∧ Pl.isPix q = true ∧ e = .returned (.tuple #[.int .i64 p, .int .i64 q]) ∧ Below w.heap.size w w'
theorem drawPixels (a : Option Addr) (len cap : Nat) (zs : List Int) (w : World) (hr : IsRow .u8 w a len cap zs) (hl : len ≤ 1048576) : Calls Try.prog 34 #[.slice a len cap] w (TwoPixels w) := by
  have HR := Lib.hid hr
  clear hr
  go_enter Try.func34, Try.ntmps34
  go_wp2_with fail
  refine (l01New_any a len cap zs _ HR.out hl).mono ?_
  rintro e w1 ⟨g, rfl, hg, C1, hb1, hs1⟩
  have D1 := Lib.hid C1
  have HG := Lib.hid hg
  have HS := Lib.hid hs1
  clear C1 hg hs1
  go_wp2_with fail
  refine (l04Draw_any g a len cap zs _ D1.out).mono ?_
  rintro e w2 ⟨v, ⟨p, hp, rfl⟩, rfl, C2, O2⟩
  have D2 := Lib.hid C2
  have HP := Lib.hid hp
  clear C2 hp
  go_wp2_with fail
  refine (l04Draw_any g a len cap zs _ D2.out).mono ?_
  rintro e w3 ⟨v, ⟨q, hq, rfl⟩, rfl, C3, O3⟩
  have D3 := Lib.hid C3
  have HQ := Lib.hid hq
  clear C3 hq
  go_wp2_with fail
  go_ret2
  have := HG.out
  have := hb1.size
  exact ⟨p, q, HP.out, HQ.out, rfl, below_out (below_out hb1 O2 (by omega) (by omega)) O3 (by omega) (by have := O2.size; omega)⟩
def AnyInt (v : Value) : Prop := IntIn (-9223372036854775808) 9223372036854775807 v
def odd10 : List Int := [-1, 0, 127, 128, 16383, 16384, 1000000000, 1000000001, 9223372036854775807, -9223372036854775808]
set_option maxRecDepth 100000 in
theorem l01Number_any (g : Nat) (a : Option Addr) (len cap : Nat) (zs : List Int) (w : World) (hc : Cursor w g a len cap zs) : Calls Try.prog 67 #[.pointer (some ⟨g, 0, none⟩)] w (Drawn AnyInt w g a len cap zs) := by
  have HC := Lib.hid hc
  clear hc
  go_enter Try.func67, Try.ntmps67
  go_wp2_with fail
  refine (l01Below_any g a len cap zs _ _ HC.out (by omega) (by omega)).mono ?_
  rintro e w1 ⟨v, ⟨x, x0, x1, rfl⟩, rfl, C1, O1⟩
  have D1 := Lib.hid C1
  have hl := C1.lt
  clear C1
  by_cases h0 : x = 0
  · subst h0
    go_wp2_with fail
    refine (l01PickInt_any g a len cap zs _ _ _ w1.heap.size (w1.heap.size + 1) odd10 _ (D1.out.alloc _) (Ints.lit w1 odd10 (by simp [odd10])) hl (by simp [odd10]) (by simp [odd10])).mono ?_
    rintro e w2 ⟨v, ⟨z, hz, rfl⟩, rfl, C2, O2⟩
    have D2 := Lib.hid C2
    clear C2
    have hz2 : -9223372036854775808 ≤ z ∧ z ≤ 9223372036854775807 := by simp [odd10] at hz; omega
    clear hz
    go_wp2_with fail
    go_ret
    exact ⟨_, ⟨z, hz2.1, hz2.2, rfl⟩, rfl, D2.out, (O1.alloc _).trans O2⟩
  · by_cases h1 : x = 1
    · subst h1
      go_wp2_with fail
      refine (l01Below_any g a len cap zs _ _ D1.out (by omega) (by omega)).mono ?_
      rintro e w2 ⟨v, ⟨y, y0, y1, rfl⟩, rfl, C2, O2⟩
      have D2 := Lib.hid C2
      clear C2
      go_wp2_with fail
      go_ret
      exact ⟨_, ⟨y, by omega, by omega, rfl⟩, rfl, D2.out, O1.trans O2⟩
    · have b0 : (x == 0) = false := by simpa using h0
      have b1 : (x == 1) = false := by simpa using h1
      go_wp2_with fail
      refine (l01Below_any g a len cap zs _ _ D1.out (by omega) (by omega)).mono ?_
      rintro e w2 ⟨v, ⟨y, y0, y1, rfl⟩, rfl, C2, O2⟩
      have D2 := Lib.hid C2
      clear C2
      go_wp2_with fail
      go_ret
      exact ⟨_, ⟨y, by omega, by omega, rfl⟩, rfl, D2.out, O1.trans O2⟩
def ThreeInts (w : World) (e : Ending) (w' : World) : Prop := ∃ n p q : Int, (-9223372036854775808 ≤ n ∧ n ≤ 9223372036854775807) ∧ (-9223372036854775808 ≤ p ∧ p ≤ 9223372036854775807) ∧ (-9223372036854775808 ≤ q ∧ q ≤ 9223372036854775807) ∧ e = .returned (.tuple #[.int .i64 n, .int .i64 p, .int .i64 q]) ∧ Below w.heap.size w w'
theorem drawClamp (a : Option Addr) (len cap : Nat) (zs : List Int) (w : World) (hr : IsRow .u8 w a len cap zs) (hl : len ≤ 1048576) : Calls Try.prog 43 #[.slice a len cap] w (ThreeInts w) := by
  have HR := Lib.hid hr
  clear hr
  go_enter Try.func43, Try.ntmps43
  go_wp2_with fail
  refine (l01New_any a len cap zs _ HR.out hl).mono ?_
  rintro e w1 ⟨g, rfl, hg, C1, hb1, hs1⟩
  have D1 := Lib.hid C1
  have HG := Lib.hid hg
  clear C1 hg hs1
  go_wp2_with fail
  refine (l01Once_any g a len cap zs _ _ D1.out (by omega) (by omega)).mono ?_
  rintro e w2 ⟨v, ⟨b, rfl⟩, rfl, C2, O2⟩
  have D2 := Lib.hid C2
  have B2 := Lib.hid (below_out hb1 O2 (by have := HG.out; omega) hb1.size)
  clear C2
  cases b
  · go_wp2_with fail
    refine (l01Below_any g a len cap zs _ _ D2.out (by omega) (by omega)).mono ?_
    rintro e w3 ⟨v, ⟨x, x0, x1, rfl⟩, rfl, C3, O3⟩
    have D3 := Lib.hid C3
    clear C3
    go_wp2_with fail
    refine (l01Below_any g a len cap zs _ _ D3.out (by omega) (by omega)).mono ?_
    rintro e w4 ⟨v, ⟨y, y0, y1, rfl⟩, rfl, C4, O4⟩
    have D4 := Lib.hid C4
    clear C4
    go_wp2_with fail
    refine (l01Below_any g a len cap zs _ _ D4.out (by omega) (by omega)).mono ?_
    rintro e w5 ⟨v, ⟨z, z0, z1, rfl⟩, rfl, C5, O5⟩
    go_wp2_with fail
    go_ret3
    have := HG.out
    have := B2.out.size
    exact ⟨_, _, _, ⟨by omega, by omega⟩, ⟨by omega, by omega⟩, ⟨by omega, by omega⟩, rfl, below_out B2.out ((O3.trans O4).trans O5) (by omega) (by omega)⟩
  · go_wp2_with fail
    refine (l01Number_any g a len cap zs _ D2.out).mono ?_
    rintro e w3 ⟨v, ⟨x, x0, x1, rfl⟩, rfl, C3, O3⟩
    have D3 := Lib.hid C3
    clear C3
    go_wp2_with fail
    refine (l01Number_any g a len cap zs _ D3.out).mono ?_
    rintro e w4 ⟨v, ⟨y, y0, y1, rfl⟩, rfl, C4, O4⟩
    have D4 := Lib.hid C4
    clear C4
    go_wp2_with fail
    refine (l01Number_any g a len cap zs _ D4.out).mono ?_
    rintro e w5 ⟨v, ⟨z, z0, z1, rfl⟩, rfl, C5, O5⟩
    go_wp2_with fail
    go_ret3
    have := HG.out
    have := B2.out.size
    exact ⟨_, _, _, ⟨x0, x1⟩, ⟨y0, y1⟩, ⟨z0, z1⟩, rfl, below_out B2.out ((O3.trans O4).trans O5) (by omega) (by omega)⟩
end Go.Proofs.Ytadghhajegpaiaa
