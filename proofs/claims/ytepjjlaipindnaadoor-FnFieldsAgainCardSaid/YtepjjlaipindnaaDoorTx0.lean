/- Plain texts: bytes, hexadecimal. No program in sight. -/
import Derived.Handy
namespace Go.Proofs.YtepjjlaipindnaaDoor.Pl
set_option linter.unusedVariables false
/-- A hexadecimal digit. -/
def dig (x : Nat) : Nat := if x < 10 then 48 + x else 87 + x
def fig (x : Nat) : UInt8 := UInt8.ofNat (dig x)
theorem dig_lt {x : Nat} (h : x < 16) : dig x < 256 := by unfold dig; split <;> omega
theorem fig_nat {x : Nat} (h : x < 16) : (fig x).toNat = dig x := by
  have := dig_lt h
  simp [fig, UInt8.toNat_ofNat']
  omega
def enc (b : UInt8) : List UInt8 := [fig (b.toNat / 16), fig (b.toNat % 16)]
def encTo (l : List UInt8) (k : Nat) : List UInt8 := (l.take k).flatMap enc
def encodeHex (l : List UInt8) : List UInt8 × Bool := if 20000 < l.length then ([], false) else (l.flatMap enc, true)
theorem encTo_zero (l : List UInt8) : encTo l 0 = [] := rfl
theorem encTo_step {l : List UInt8} {k : Nat} {b : UInt8} (h : l[k]? = some b) : encTo l (k + 1) = encTo l k ++ enc b := by
  unfold encTo
  rw [List.take_add_one, h]
  simp
theorem encTo_length (l : List UInt8) (k : Nat) (h : k ≤ l.length) : (encTo l k).length = 2 * k := by
  induction k with
  | zero => rfl
  | succ k ih =>
    rw [encTo_step (List.getElem?_eq_getElem (show k < l.length by omega)), List.length_append, ih (by omega)]
    simp [enc]
    omega
theorem encTo_all (l : List UInt8) : encTo l l.length = l.flatMap enc := by rw [encTo, List.take_length]
/-- The value of a digit, -1 where it is none. -/
def val (x : Nat) : Int := if 48 ≤ x ∧ x ≤ 57 then (x : Int) - 48 else if 97 ≤ x ∧ x ≤ 102 then (x : Int) - 87 else -1
theorem val_bd (x : Nat) : -1 ≤ val x ∧ val x ≤ 15 := by unfold val; split <;> (try split) <;> omega
def nat (l : List UInt8) (k : Nat) : Nat := (l.getD k 0).toNat
theorem nat_lt (l : List UInt8) (k : Nat) : nat l k < 256 := UInt8.toNat_lt _
theorem nat_get {l : List UInt8} {k : Nat} {b : UInt8} (h : l[k]? = some b) : nat l k = b.toNat := by simp [nat, List.getD_eq_getElem?_getD, h]
def pair (l : List UInt8) (j : Nat) : UInt8 := UInt8.ofNat (16 * val (nat l (2 * j)) + val (nat l (2 * j + 1))).toNat
def decTo (l : List UInt8) (k : Nat) : List UInt8 := (List.range k).map (pair l)
def good (l : List UInt8) (j : Nat) : Bool := decide (0 ≤ val (nat l (2 * j))) && decide (0 ≤ val (nat l (2 * j + 1)))
def goodTo (l : List UInt8) (k : Nat) : Bool := (List.range k).all (good l)
def decodeHex (l : List UInt8) : List UInt8 × Bool := if l.length % 2 = 0 ∧ l.length ≤ 40000 ∧ goodTo l (l.length / 2) = true then (decTo l (l.length / 2), true) else ([], false)
theorem decTo_zero (l : List UInt8) : decTo l 0 = [] := rfl
theorem decTo_length (l : List UInt8) (k : Nat) : (decTo l k).length = k := by simp [decTo]
theorem decTo_step (l : List UInt8) (k : Nat) : decTo l (k + 1) = decTo l k ++ [pair l k] := by simp [decTo, List.range_succ]
theorem goodTo_zero (l : List UInt8) : goodTo l 0 = true := rfl
theorem goodTo_step {l : List UInt8} {k : Nat} (h : goodTo l k = true) (g : good l k = true) : goodTo l (k + 1) = true := by simp [goodTo, List.range_succ, g]; simpa [goodTo] using h
theorem goodTo_no {l : List UInt8} {k n : Nat} (hk : k < n) (g : good l k = false) : goodTo l n = false := by
  unfold goodTo
  rw [List.all_eq_false]
  exact ⟨k, List.mem_range.2 hk, by rw [g]; simp⟩
theorem pair_nat {l : List UInt8} {j : Nat} (g : good l j = true) : ((pair l j).toNat : Int) = 16 * val (nat l (2 * j)) + val (nat l (2 * j + 1)) := by
  simp only [good, Bool.and_eq_true, decide_eq_true_eq] at g
  have h1 := val_bd (nat l (2 * j))
  have h2 := val_bd (nat l (2 * j + 1))
  unfold pair
  generalize val (nat l (2 * j)) = a at *
  generalize val (nat l (2 * j + 1)) = b at *
  obtain ⟨c, hc⟩ := Int.eq_ofNat_of_zero_le (show 0 ≤ 16 * a + b by omega)
  rw [hc, Int.toNat_natCast, UInt8.toNat_ofNat']
  omega

end Go.Proofs.YtepjjlaipindnaaDoor.Pl
namespace Go.Proofs.YtepjjlaipindnaaDoor
def bcells (l : List UInt8) : List Value := l.map fun b => Value.int .u8 (b.toNat : Int)
theorem bcells_length (l : List UInt8) : (bcells l).length = l.length := by simp [bcells]
theorem bcells_append (l m : List UInt8) : bcells (l ++ m) = bcells l ++ bcells m := by simp [bcells]
theorem bcells_one (l : List UInt8) : ∀ u ∈ bcells l, u.oneCell' = true := by
  intro u hu
  simp only [bcells, List.mem_map] at hu
  obtain ⟨b, _, rfl⟩ := hu
  rfl
theorem byte_at {s : ByteArray} {k : Nat} (h : k < s.size) : ∃ b : UInt8, s.data.toList[k]? = some b ∧ ∀ h, s[k]'h = b := by
  obtain ⟨⟨l⟩⟩ := s
  have hl : k < l.length := h
  exact ⟨l[k], List.getElem?_eq_getElem hl, fun _ => rfl⟩
theorem size_list (s : ByteArray) : s.data.toList.length = s.size := by obtain ⟨⟨l⟩⟩ := s; rfl
end Go.Proofs.YtepjjlaipindnaaDoor
