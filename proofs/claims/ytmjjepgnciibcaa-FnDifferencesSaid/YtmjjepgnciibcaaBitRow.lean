/- A row of the screen as a number: its bits, and the operators on it. No program in sight. -/
import Derived.Test.YtmjjepgnciibcaaReg0
import Derived.Laws.BitsAllLaws
import Derived.Laws.BitsLemmas
namespace Go.Proofs.Ytmjjepgnciibcaa
open Go
namespace Pl
/-- The numbers m hold the points G, row by row. -/
def Holds (m : Nat → Nat) (G : Nat → Nat → Bool) : Prop := ∀ y, y < 16 → m y < 65536 ∧ ∀ x, x < 16 → (m y).testBit x = G y x
theorem tb_hi {n x : Nat} (h : n < 65536) (hx : 16 ≤ x) : n.testBit x = false := Nat.testBit_lt_two_pow (Nat.lt_of_lt_of_le h (by show 2 ^ 16 ≤ 2 ^ x; exact Nat.pow_le_pow_right (by decide) hx))
theorem Holds.row {m : Nat → Nat} {G : Nat → Nat → Bool} (h : Holds m G) {y z : Nat} (hy : y < 16) (hz : z < 16) : rowEq (G y) (G z) = decide (m y = m z) := by
  rw [Bool.eq_iff_iff, rowEq_iff, decide_eq_true_iff]
  obtain ⟨a1, a2⟩ := h y hy
  obtain ⟨b1, b2⟩ := h z hz
  constructor
  · intro e
    refine Nat.eq_of_testBit_eq fun x => ?_
    by_cases hx : x < 16
    · rw [a2 x hx, b2 x hx, e x hx]
    · rw [tb_hi a1 (by omega), tb_hi b1 (by omega)]
  · intro e x hx
    rw [← a2 x hx, ← b2 x hx, e]
theorem holds_zero : Holds (fun _ => 0) (fun _ _ => false) := fun _ _ => ⟨Nat.zero_lt_succ _, fun _ _ => Nat.zero_testBit _⟩
theorem Holds.or {m n : Nat → Nat} {G H : Nat → Nat → Bool} (h : Holds m G) (k : Holds n H) : Holds (fun y => m y ||| n y) (fun y x => G y x || H y x) := by
  intro y hy
  obtain ⟨a1, a2⟩ := h y hy
  obtain ⟨b1, b2⟩ := k y hy
  exact ⟨Nat.or_lt_two_pow (n := 16) a1 b1, fun x hx => by rw [Nat.testBit_or, a2 x hx, b2 x hx]⟩
theorem Holds.and {m n : Nat → Nat} {G H : Nat → Nat → Bool} (h : Holds m G) (k : Holds n H) : Holds (fun y => m y &&& n y) (fun y x => G y x && H y x) := by
  intro y hy
  obtain ⟨a1, a2⟩ := h y hy
  obtain ⟨b1, b2⟩ := k y hy
  exact ⟨Nat.and_lt_two_pow (n := 16) _ b1, fun x hx => by rw [Nat.testBit_and, a2 x hx, b2 x hx]⟩
theorem Holds.without {m n : Nat → Nat} {G H : Nat → Nat → Bool} (h : Holds m G) (k : Holds n H) : Holds (fun y => m y &&& (18446744073709551615 - n y)) (fun y x => G y x && !H y x) := by
  intro y hy
  obtain ⟨a1, a2⟩ := h y hy
  obtain ⟨b1, b2⟩ := k y hy
  refine ⟨Nat.lt_of_le_of_lt Nat.and_le_left a1, fun x hx => ?_⟩
  have e : (18446744073709551615 - n y : Nat) = 2 ^ 64 - (n y + 1) := by omega
  have hb : decide (x < 64) = true := by simp; omega
  rw [Nat.testBit_and, a2 x hx, e, Nat.testBit_two_pow_sub_succ (by omega), b2 x hx, hb, Bool.true_and]
theorem Holds.congr {m : Nat → Nat} {G H : Nat → Nat → Bool} (h : Holds m G) (e : ∀ y, y < 16 → ∀ x, x < 16 → G y x = H y x) : Holds m H := fun y hy => ⟨(h y hy).1, fun x hx => by rw [(h y hy).2 x hx, e y hy x hx]⟩
/-- A bit is asked for by an and with a power of two. -/
theorem and_pow (n x : Nat) : (n &&& 2 ^ x = 0) ↔ n.testBit x = false := by
  have hp : 0 < 2 ^ x := Nat.two_pow_pos x
  rw [Go.nat_bit, Nat.testBit_eq_decide_div_mod_eq]
  rcases Nat.mod_two_eq_zero_or_one (n / 2 ^ x) with h | h <;> simp [h] <;> omega
/-- The row of a rectangle: w bits from x on. -/
theorem mask_lt {w x : Nat} (h : x + w ≤ 16) : (2 ^ w - 1) * 2 ^ x < 65536 := by
  have h1 : 2 ^ w * 2 ^ x ≤ 65536 := by rw [← Nat.pow_add]; exact Nat.pow_le_pow_right (n := 2) (by decide) (by omega : w + x ≤ 16)
  have hp : 0 < 2 ^ x := Nat.two_pow_pos x
  have hw : 0 < 2 ^ w := Nat.two_pow_pos w
  have := Nat.mul_lt_mul_of_pos_right (show 2 ^ w - 1 < 2 ^ w by omega) hp
  omega
theorem mask_bit {w x i : Nat} : ((2 ^ w - 1) * 2 ^ x).testBit i = (decide (x ≤ i) && decide (i < x + w)) := by
  rw [Nat.mul_comm, Nat.testBit_two_pow_mul, Nat.testBit_two_pow_sub_one]
  by_cases h : x ≤ i
  · simp [h]; omega
  · simp [h]
end Pl
theorem bits_ofInt (a : Nat) (ha : a < 9223372036854775808) : (BitVec.ofInt 64 (a : Int)).toNat = a := by
  rw [BitVec.ofInt_natCast, BitVec.toNat_ofNat]; exact Nat.mod_eq_of_lt (by omega)
theorem i64_and {a b : Nat} (ha : a < 9223372036854775808) (hb : b < 9223372036854775808) : bits .and .i64 (a : Int) (b : Int) = ((a &&& b : Nat) : Int) := by
  have hx : a &&& b < 2 ^ 63 := Nat.and_lt_two_pow _ (by omega)
  show IntKind.i64.wrap ((BitVec.ofInt 64 (a : Int) &&& BitVec.ofInt 64 (b : Int)).toNat : Int) = _
  rw [BitVec.toNat_and, bits_ofInt a ha, bits_ofInt b hb, IntKind.wrap_i64]
  omega
theorem i64_or {a b : Nat} (ha : a < 9223372036854775808) (hb : b < 9223372036854775808) : bits .or .i64 (a : Int) (b : Int) = ((a ||| b : Nat) : Int) := by
  have hx : a ||| b < 2 ^ 63 := Nat.or_lt_two_pow (by omega) (by omega)
  show IntKind.i64.wrap ((BitVec.ofInt 64 (a : Int) ||| BitVec.ofInt 64 (b : Int)).toNat : Int) = _
  rw [BitVec.toNat_or, bits_ofInt a ha, bits_ofInt b hb, IntKind.wrap_i64]
  omega
theorem i64_andNot {a b : Nat} (ha : a < 9223372036854775808) (hb : b < 9223372036854775808) : bits .andNot .i64 (a : Int) (b : Int) = ((a &&& (18446744073709551615 - b) : Nat) : Int) := by
  have hx : a &&& (18446744073709551615 - b) ≤ a := Nat.and_le_left
  show IntKind.i64.wrap ((BitVec.ofInt 64 (a : Int) &&& ~~~(BitVec.ofInt 64 (b : Int))).toNat : Int) = _
  rw [BitVec.toNat_and, BitVec.toNat_not, bits_ofInt a ha, bits_ofInt b hb, IntKind.wrap_i64]
  show ((((a &&& (2 ^ 64 - 1 - b) : Nat) : Int) + 9223372036854775808) % 18446744073709551616 - 9223372036854775808) = _
  rw [show (2 ^ 64 - 1 - b : Nat) = 18446744073709551615 - b by omega]
  omega
end Go.Proofs.Ytmjjepgnciibcaa
