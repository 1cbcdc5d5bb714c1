/- Plain pixels: blending and fading. No program in sight. -/
import Derived.Test.YtmjjepgnciibcaaPlain
namespace Go.Proofs.Ytmjjepgnciibcaa.Pl

def mix (t b k : Int) : Int := part (chan t k) (chan t 0) + part (chan b k) (255 - chan t 0)
def over (t b : Int) : Int := if isPix t && isPix b then ((255 * 256 + mix t b 1) * 256 + mix t b 2) * 256 + mix t b 3 else -1
def fade (p a : Int) : Int := if isPix p && inB a 0 255 then part (chan p 0) a * 16777216 + p % 16777216 else -1
theorem chan_in (p k : Int) : inB (chan p k) 0 255 = true := inB_mk (chan_bd p k)
theorem chan_in2 (p : Int) : inB (255 - chan p 0) 0 255 = true := inB_mk (by have := chan_bd p 0; omega)
theorem part_nn {a b : Int} (ha : 0 ≤ a) (ha2 : a ≤ 255) (hb : 0 ≤ b) (hb2 : b ≤ 255) : part a b = (a * b + 127) / 255 := by
  simp only [part, inB_mk ⟨ha, ha2⟩, inB_mk ⟨hb, hb2⟩, Bool.and_self, if_true]
theorem part_le {a b : Int} (ha : 0 ≤ a) (ha2 : a ≤ 255) (hb : 0 ≤ b) (hb2 : b ≤ 255) : 0 ≤ part a b ∧ part a b ≤ b := by
  rw [part_nn ha ha2 hb hb2]
  have h := mul_bd (a := a) (b := b) (A := 255) (B := b) ha ha2 hb (by omega)
  omega
theorem mix_bd (t b k : Int) : 0 ≤ part (chan t k) (chan t 0) ∧ 0 ≤ part (chan b k) (255 - chan t 0) ∧ part (chan t k) (chan t 0) + part (chan b k) (255 - chan t 0) ≤ 255 := by
  have h0 := chan_bd t 0
  have h1 := chan_bd t k
  have h2 := chan_bd b k
  have := part_le h1.1 h1.2 h0.1 h0.2
  have := part_le (a := chan b k) (b := 255 - chan t 0) h2.1 h2.2 (by omega) (by omega)
  omega
theorem mix_le (t b k : Int) : 0 ≤ mix t b k ∧ mix t b k ≤ 255 := by have := mix_bd t b k; unfold mix; omega
theorem and24 (a : Int) (h0 : 0 ≤ a) (h1 : a < 9223372036854775808) : bits .and .i64 a 16777215 = a % 16777216 := by
  obtain ⟨n, rfl⟩ := Int.eq_ofNat_of_zero_le h0
  have h := i64_and_nat n 16777215 (by omega) (by omega)
  have e : n &&& 16777215 = n % 16777216 := Nat.and_two_pow_sub_one_eq_mod n 24
  rw [e] at h
  exact h
theorem or24 (a b : Int) (a0 : 0 ≤ a) (a1 : a ≤ 255) (b0 : 0 ≤ b) (b1 : b < 16777216) : bits .or .i64 (a * 16777216) b = a * 16777216 + b :=
  i64_orK 24 16777216 a b (by decide) a0 (by omega) b0 b1 (by omega)
theorem or8_255 (b : Int) (b0 : 0 ≤ b) (b1 : b ≤ 255) : bits .or .i64 65280 b = 65280 + b := i64_or8 255 b (by omega) (by omega) b0 b1
end Go.Proofs.Ytmjjepgnciibcaa.Pl
