/- Plain texts: decimal numerals read back. No program in sight. -/
import Derived.Test.YtepjjlaipindnaaDoorTx0
import Derived.Lib.ItoaNum
import Derived.Lib.ItoaMem
import Derived.Lib.AtoiAll
namespace Go.Proofs.YtepjjlaipindnaaDoor.Pl
set_option linter.unusedVariables false
set_option linter.unusedSimpArgs false
def digit (b : UInt8) : Bool := decide (48 ≤ b.toNat) && decide (b.toNat ≤ 57)
/-- The value of a row of digits. -/
def num (l : List UInt8) : Nat := l.foldl (fun a b => 10 * a + (b.toNat - 48)) 0
theorem num_snoc (l : List UInt8) (c : UInt8) : num (l ++ [c]) = 10 * num l + (c.toNat - 48) := by simp [num]
theorem num_take {l : List UInt8} {k : Nat} {b : UInt8} (h : l[k]? = some b) : num (l.take (k + 1)) = 10 * num (l.take k) + (b.toNat - 48) := by
  rw [List.take_add_one, h]
  exact num_snoc _ _
theorem all_take_snoc' {l : List UInt8} {k : Nat} {b : UInt8} (h : l[k]? = some b) : (l.take (k + 1)).all digit = ((l.take k).all digit && digit b) := by
  rw [List.take_add_one, h]
  simp
theorem num_lt (l : List UInt8) (n : Nat) : l.length ≤ n → l.all digit = true → num l < 10 ^ n := by
  induction n generalizing l with
  | zero => intro h _; obtain rfl := List.eq_nil_of_length_eq_zero (by omega : l.length = 0); simp [num]
  | succ n ih =>
    intro h1 h2
    rcases List.eq_nil_or_concat l with rfl | ⟨m, c, rfl⟩
    · show 0 < _; exact Nat.pow_pos (by decide)
    · simp only [List.concat_eq_append, List.length_append, List.length_cons, List.length_nil] at h1
      simp only [List.concat_eq_append, List.all_append, List.all_cons, List.all_nil, Bool.and_true, Bool.and_eq_true] at h2
      have := ih m (by omega) h2.1
      have hc := h2.2
      simp only [digit, Bool.and_eq_true, decide_eq_true_eq] at hc
      rw [List.concat_eq_append, num_snoc, Nat.pow_succ]
      omega
theorem fig_dec {d : Nat} (h : d < 10) : (fig d).toNat = 48 + d := by rw [fig_nat (by omega)]; unfold dig; rw [if_pos h]
theorem ofNat_dec {d : Nat} (h : d < 10) : (UInt8.ofNat (48 + d)).toNat = 48 + d := by rw [UInt8.toNat_ofNat']; omega
theorem dec_ok (u : Nat) : (Lib.decDigits u).all digit = true ∧ num (Lib.decDigits u) = u ∧ Lib.decDigits u ≠ [] := by
  induction u using Nat.strongRecOn with
  | _ u ih =>
    rw [Lib.decDigits]
    by_cases h : u < 10
    · rw [dif_pos h]
      refine ⟨?_, ?_, by simp⟩
      · simp [digit, ofNat_dec h]; omega
      · simp only [num, List.foldl_cons, List.foldl_nil, ofNat_dec h]; omega
    · rw [dif_neg h]
      obtain ⟨h1, h2, _⟩ := ih (u / 10) (by omega)
      have hd : u % 10 < 10 := Nat.mod_lt _ (by decide)
      refine ⟨?_, ?_, by simp⟩
      · rw [List.all_append, h1]
        simp [digit, ofNat_dec hd]; omega
      · rw [num_snoc, h2, ofNat_dec hd]; omega
theorem parse_snoc : ∀ (l : List UInt8) (acc v : Nat) (c : UInt8), Lib.parseUint10 acc l = .ok v → 48 ≤ c.toNat → c.toNat ≤ 57 → v * 10 + (c.toNat - 48) < 18446744073709551616 → Lib.parseUint10 acc (l ++ [c]) = .ok (v * 10 + (c.toNat - 48))
  | [], acc, v, c, h, h1, h2, h3 => by
    simp only [Lib.parseUint10] at h
    injection h with h
    subst h
    simp only [List.nil_append, Lib.parseUint10]
    rw [if_pos ⟨h1, h2⟩, if_neg (by omega), if_neg (by omega)]
  | a :: r, acc, v, c, h, h1, h2, h3 => by
    simp only [List.cons_append, Lib.parseUint10] at h ⊢
    by_cases t : 48 ≤ a.toNat ∧ a.toNat ≤ 57
    · rw [if_pos t] at h ⊢
      by_cases t1 : 1844674407370955162 ≤ acc
      · rw [if_pos t1] at h; cases h
      · rw [if_neg t1] at h ⊢
        by_cases t2 : 18446744073709551616 ≤ acc * 10 + (a.toNat - 48)
        · rw [if_pos t2] at h; cases h
        · rw [if_neg t2] at h ⊢
          exact parse_snoc r _ v c h h1 h2 h3
    · rw [if_neg t] at h; cases h
theorem parse_dec (u : Nat) (hu : u < 9223372036854775808) : Lib.parseUint10 0 (Lib.decDigits u) = .ok u := by
  induction u using Nat.strongRecOn with
  | _ u ih =>
    rw [Lib.decDigits]
    by_cases h : u < 10
    · rw [dif_pos h]
      have e := ofNat_dec h
      have := parse_snoc [] 0 0 (UInt8.ofNat (48 + u)) rfl (by omega) (by omega) (by omega)
      rw [List.nil_append] at this
      rw [this, e]
      congr 1
      omega
    · rw [dif_neg h]
      have hd : u % 10 < 10 := Nat.mod_lt _ (by decide)
      have e := ofNat_dec hd
      rw [parse_snoc _ _ _ _ (ih (u / 10) (by omega) (by omega)) (by omega) (by omega) (by omega), e]
      congr 1
      omega
theorem atoi_dec (u : Nat) (hu : u < 9223372036854775808) : Lib.atoiAll (Lib.decDigits u) = .ok (u : Int) := by
  obtain ⟨h1, _, h3⟩ := dec_ok u
  have hp := parse_dec u hu
  generalize Lib.decDigits u = l at *
  cases l with
  | nil => exact absurd rfl h3
  | cons c r =>
    simp only [List.all_cons, Bool.and_eq_true, digit, decide_eq_true_eq] at h1
    obtain ⟨⟨c1, c2⟩, _⟩ := h1
    unfold Lib.atoiAll
    simp only
    rw [if_neg (by omega)]
    unfold Lib.parseMag
    rw [if_neg (by simp), hp]
    simp only
    rw [if_neg (by omega), if_neg (by omega), if_neg (by omega)]
/-- ParseUint. -/
def parsed (l : List UInt8) : Prop := l.length ≤ 10 ∧ l.all digit = true ∧ num l ≤ 1000000000 ∧ Lib.decDigits (num l) = l
instance (l : List UInt8) : Decidable (parsed l) := by unfold parsed; infer_instance
def parseUint (l : List UInt8) : Int × Bool := if parsed l then ((num l : Int), true) else (0, false)
theorem parse_good {l : List UInt8} {v : Int} (h0 : 0 ≤ v) (h1 : v ≤ 1000000000) (h2 : Lib.itoa v = l) (h3 : l.length ≤ 10) : parseUint l = (v, true) := by
  obtain ⟨u, rfl⟩ := Int.eq_ofNat_of_zero_le h0
  have hd : Lib.decDigits u = l := by rw [← h2, Lib.itoa_nonneg]
  obtain ⟨d1, d2, _⟩ := dec_ok u
  rw [hd] at d1 d2
  unfold parseUint
  rw [if_pos ⟨h3, d1, by omega, by rw [d2]; exact hd⟩, d2]
theorem parse_long {l : List UInt8} (h : 10 < l.length) : parseUint l = (0, false) := by unfold parseUint; rw [if_neg fun c => by have := c.1; omega]
theorem parse_atoi {l : List UInt8} (h : parsed l) : Lib.atoiAll l = .ok (num l : Int) ∧ (num l : Int) ≤ 1000000000 ∧ Lib.itoa (num l : Int) = l := by
  obtain ⟨h1, h2, h3, h4⟩ := h
  refine ⟨?_, by omega, by rw [Lib.itoa_nonneg, h4]⟩
  have := atoi_dec (num l) (by omega)
  rw [h4] at this
  exact this
/-- What strconv.Atoi says of a numeral that ParseUint does not take. -/
theorem parse_bad {l : List UInt8} (h : ∀ v : Int, Lib.atoiAll l = .ok v → 0 ≤ v → v ≤ 1000000000 → Lib.itoa v = l → False) : parseUint l = (0, false) := by
  unfold parseUint
  rw [if_neg fun c => ?_]
  obtain ⟨h1, h2, h3⟩ := parse_atoi c
  exact h _ h1 (by omega) h2 h3
theorem parse_undig {l : List UInt8} {k : Nat} {b : UInt8} (h : l[k]? = some b) (hb : digit b = false) : parseUint l = (0, false) := by
  unfold parseUint
  rw [if_neg fun c => ?_]
  have := List.all_eq_true.1 c.2.1 b (List.mem_of_getElem? h)
  rw [hb] at this
  cases this
theorem parse_no {l : List UInt8} (h : 1000000000 < num l ∨ Lib.itoa (num l : Int) ≠ l) : parseUint l = (0, false) := by
  unfold parseUint
  rw [if_neg fun c => ?_]
  obtain ⟨_, _, h3, h4⟩ := c
  rcases h with h | h
  · omega
  · exact h (by rw [Lib.itoa_nonneg]; exact h4)
end Go.Proofs.YtepjjlaipindnaaDoor.Pl
