/- Plain functions and facts on integers: what the program's small functions compute. No program in sight. -/
import Derived.IntWalk
import Derived.PlainAid
namespace Go.Proofs.YtepjjlaipindnaaDoor.Pl

/-- low ≤ n ≤ high, as a Bool that the walk does not open. -/
def inB (n lo hi : Int) : Bool := decide (lo ≤ n ∧ n ≤ hi)
theorem inB_t {n lo hi : Int} (h : inB n lo hi = true) : lo ≤ n ∧ n ≤ hi := by simpa [inB] using h
theorem inB_f {n lo hi : Int} (h : inB n lo hi = false) : ¬ (lo ≤ n ∧ n ≤ hi) := by simpa [inB] using h
theorem inB_mk {n lo hi : Int} (h : lo ≤ n ∧ n ≤ hi) : inB n lo hi = true := by simpa [inB] using h
theorem inB_no {n lo hi : Int} (h : ¬ (lo ≤ n ∧ n ≤ hi)) : inB n lo hi = false := by simpa [inB] using h

theorem mul_bd {a b A B : Int} (h0 : 0 ≤ a) (h1 : a ≤ A) (h2 : 0 ≤ b) (h3 : b ≤ B) : 0 ≤ a * b ∧ a * b ≤ A * B :=
  ⟨Int.mul_nonneg h0 h2, Int.mul_le_mul h1 h3 h2 (by omega)⟩

def part (a b : Int) : Int := if inB a 0 255 && inB b 0 255 then (a * b + 127) / 255 else -1
def clamp (n lo hi : Int) : Int := if hi < lo ∨ n < lo then lo else if hi < n then hi else n
def scalePoint (f t k : Int) : Int := if inB f 1 16 && inB t 1 16 && inB k 0 (t - 1) then k * f / t else -1
def makePixel (a r g b : Int) : Int := if inB a 0 255 && inB r 0 255 && inB g 0 255 && inB b 0 255 then a * 16777216 + r * 65536 + g * 256 + b else -1
def chan (p k : Int) : Int := if k = 0 then p / 16777216 % 256 else if k = 1 then p / 65536 % 256 else if k = 2 then p / 256 % 256 else p % 256
def isPix (p : Int) : Bool := inB p 0 4294967295
def channelOf (p k : Int) : Int := if isPix p && inB k 0 3 then chan p k else -1
def undoOrient (o : Int) : Int := if inB o 0 7 then (if 4 ≤ o then o else (4 - o) % 4) else -1
def orientW (w h o : Int) : Int := if inB w 1 16 && inB h 1 16 && inB o 0 7 then (if o % 2 = 1 then h else w) else 0
def orientH (w h o : Int) : Int := if inB w 1 16 && inB h 1 16 && inB o 0 7 then (if o % 2 = 1 then w else h) else 0
def thenOrient (a b : Int) : Int := if inB a 0 7 && inB b 0 7 then (if 4 ≤ b then (b % 4 + 4 - a % 4) % 4 else (b % 4 + a % 4) % 4) + 4 * ((a / 4 + b / 4) % 2) else -1
def rectOk (x y w h : Int) : Bool := inB x (-1000) 1000 && inB y (-1000) 1000 && inB w 0 1000 && inB h 0 1000
def hasPoint (x y w h px py : Int) : Bool := rectOk x y w h && decide (x ≤ px) && decide (px < x + w) && decide (y ≤ py) && decide (py < y + h)

theorem rectOk_t {x y w h : Int} (hr : rectOk x y w h = true) : -1000 ≤ x ∧ x ≤ 1000 ∧ -1000 ≤ y ∧ y ≤ 1000 ∧ 0 ≤ w ∧ w ≤ 1000 ∧ 0 ≤ h ∧ h ≤ 1000 := by
  simp only [rectOk, Bool.and_eq_true] at hr
  obtain ⟨⟨⟨h1, h2⟩, h3⟩, h4⟩ := hr
  have := inB_t h1; have := inB_t h2; have := inB_t h3; have := inB_t h4
  omega
theorem chan_bd (p k : Int) : 0 ≤ chan p k ∧ chan p k ≤ 255 := by unfold chan; repeat' split <;> omega
theorem part_bd {a b : Int} (ha : inB a 0 255 = true) (hb : inB b 0 255 = true) : 0 ≤ part a b ∧ part a b ≤ 255 := by
  have := inB_t ha; have := inB_t hb
  have h := mul_bd (a := a) (b := b) (A := 255) (B := 255) (by omega) (by omega) (by omega) (by omega)
  simp only [part, ha, hb, Bool.and_self, if_true]
  omega

theorem ofInt_i64 (a : Nat) (ha : a < 9223372036854775808) : (BitVec.ofInt 64 (a : Int)).toNat = a := by
  rw [BitVec.ofInt_natCast, BitVec.toNat_ofNat]; exact Nat.mod_eq_of_lt (by omega)
theorem i64_and_nat (a b : Nat) (ha : a < 9223372036854775808) (hb : b < 9223372036854775808) : bits .and .i64 (a : Int) (b : Int) = ((a &&& b : Nat) : Int) := by
  have hx : a &&& b < 2 ^ 63 := Nat.and_lt_two_pow _ (by omega)
  show IntKind.i64.wrap ((BitVec.ofInt 64 (a : Int) &&& BitVec.ofInt 64 (b : Int)).toNat : Int) = _
  rw [BitVec.toNat_and, ofInt_i64 a ha, ofInt_i64 b hb, IntKind.wrap_i64]
  omega
theorem i64_or_nat (a b : Nat) (ha : a < 9223372036854775808) (hb : b < 9223372036854775808) : bits .or .i64 (a : Int) (b : Int) = ((a ||| b : Nat) : Int) := by
  have hx : a ||| b < 2 ^ 63 := Nat.or_lt_two_pow (by omega) (by omega)
  show IntKind.i64.wrap ((BitVec.ofInt 64 (a : Int) ||| BitVec.ofInt 64 (b : Int)).toNat : Int) = _
  rw [BitVec.toNat_or, ofInt_i64 a ha, ofInt_i64 b hb, IntKind.wrap_i64]
  omega
theorem and255 (a : Int) (h0 : 0 ≤ a) (h1 : a < 9223372036854775808) : bits .and .i64 a 255 = a % 256 := by
  obtain ⟨n, rfl⟩ := Int.eq_ofNat_of_zero_le h0
  have h := i64_and_nat n 255 (by omega) (by omega)
  have e : n &&& 255 = n % 256 := Nat.and_two_pow_sub_one_eq_mod n 8
  rw [e] at h
  exact h
/-- high and low bits that do not meet: or is plus -/
theorem or_add (a b k : Nat) (hb : b < 2 ^ k) : (a * 2 ^ k) ||| b = a * 2 ^ k + b := by
  rw [Nat.mul_comm]; exact (Nat.two_pow_add_eq_or_of_lt hb a).symm
theorem i64_or8 (a b : Int) (h0 : 0 ≤ a) (h1 : a ≤ 1099511627776) (h2 : 0 ≤ b) (h3 : b ≤ 255) : bits .or .i64 (a * 256) b = a * 256 + b := by
  obtain ⟨n, rfl⟩ := Int.eq_ofNat_of_zero_le h0
  obtain ⟨m, rfl⟩ := Int.eq_ofNat_of_zero_le h2
  have h := i64_or_nat (n * 256) m (by omega) (by omega)
  have e := or_add n m 8 (by omega)
  rw [show (2 : Nat) ^ 8 = 256 from rfl] at e
  rw [e] at h
  simpa using h
theorem i64_orK (k : Nat) (P a b : Int) (hP : P = ((2 ^ k : Nat) : Int)) (h0 : 0 ≤ a) (h1 : a * P < 4611686018427387904) (h2 : 0 ≤ b) (h3 : b < P) (h4 : P < 4611686018427387904) : bits .or .i64 (a * P) b = a * P + b := by
  subst hP
  obtain ⟨n, rfl⟩ := Int.eq_ofNat_of_zero_le h0
  obtain ⟨m, rfl⟩ := Int.eq_ofNat_of_zero_le h2
  rw [← Int.natCast_mul] at h1 ⊢
  have h := i64_or_nat (n * 2 ^ k) m (by omega) (by omega)
  rw [or_add n m k (by omega)] at h
  rw [h, Int.natCast_add]
theorem or_pixel (a r g b : Int) (a0 : 0 ≤ a) (a1 : a ≤ 255) (r0 : 0 ≤ r) (r1 : r ≤ 255) (g0 : 0 ≤ g) (g1 : g ≤ 255) (b0 : 0 ≤ b) (b1 : b ≤ 255) :
    bits .or .i64 (bits .or .i64 (bits .or .i64 (a * 16777216) (r * 65536)) (g * 256)) b = a * 16777216 + r * 65536 + g * 256 + b := by
  rw [i64_orK 24 16777216 a (r * 65536) (by decide) a0 (by omega) (by omega) (by omega) (by omega)]
  rw [show a * 16777216 + r * 65536 = (a * 256 + r) * 65536 from by omega]
  rw [i64_orK 16 65536 (a * 256 + r) (g * 256) (by decide) (by omega) (by omega) (by omega) (by omega) (by omega)]
  rw [show (a * 256 + r) * 65536 + g * 256 = (a * 65536 + r * 256 + g) * 256 from by omega]
  rw [i64_orK 8 256 (a * 65536 + r * 256 + g) b (by decide) (by omega) (by omega) (by omega) (by omega) (by omega)]
theorem orient_group8 : ∀ a b c : Fin 8, (thenOrient (thenOrient a.val b.val) c.val == thenOrient a.val (thenOrient b.val c.val)) = true ∧ (thenOrient a.val 0 == (a.val : Int)) = true ∧ (thenOrient 0 a.val == (a.val : Int)) = true ∧ (thenOrient a.val (undoOrient a.val) == 0) = true ∧ (thenOrient (undoOrient a.val) a.val == 0) = true := by decide +kernel
theorem orient_group (a b c : Int) (a0 : 0 ≤ a) (a1 : a < 8) (b0 : 0 ≤ b) (b1 : b < 8) (c0 : 0 ≤ c) (c1 : c < 8) : (thenOrient (thenOrient a b) c == thenOrient a (thenOrient b c)) = true ∧ (thenOrient a 0 == a) = true ∧ (thenOrient 0 a == a) = true ∧ (thenOrient a (undoOrient a) == 0) = true ∧ (thenOrient (undoOrient a) a == 0) = true := by
  obtain ⟨x, rfl⟩ := Int.eq_ofNat_of_zero_le a0
  obtain ⟨y, rfl⟩ := Int.eq_ofNat_of_zero_le b0
  obtain ⟨z, rfl⟩ := Int.eq_ofNat_of_zero_le c0
  exact orient_group8 ⟨x, by omega⟩ ⟨y, by omega⟩ ⟨z, by omega⟩
end Go.Proofs.YtepjjlaipindnaaDoor.Pl
