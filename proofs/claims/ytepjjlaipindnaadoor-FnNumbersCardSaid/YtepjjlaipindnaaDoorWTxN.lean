/- The law FnNumbers: it returns true. -/
import Derived.Test.YtepjjlaipindnaaDoorTxP
import Derived.Test.YtepjjlaipindnaaDoorDr
import Derived.Test.YtepjjlaipindnaaDoorAt
namespace Go.Proofs.YtepjjlaipindnaaDoor.Pl
theorem dec_len : ∀ (k u : Nat), u < 10 ^ (k + 1) → (Lib.decDigits u).length ≤ k + 1
  | 0, u, h => by rw [Lib.decDigits, dif_pos (by simpa using h)]; simp
  | k + 1, u, h => by
    rw [Lib.decDigits]
    by_cases hu : u < 10
    · rw [dif_pos hu]; simp
    · rw [dif_neg hu]
      have := dec_len k (u / 10) (by rw [Nat.pow_succ] at h; omega)
      simp only [List.length_append, List.length_cons, List.length_nil]
      omega
theorem parse_in {n : Int} (h0 : 0 ≤ n) (h1 : n ≤ 1000000000) : parseUint (Lib.itoa n) = (n, true) := by
  refine parse_good h0 h1 rfl ?_
  obtain ⟨u, rfl⟩ := Int.eq_ofNat_of_zero_le h0
  rw [Lib.itoa_nonneg]
  exact dec_len 9 u (by have : u ≤ 1000000000 := by omega
                        omega)
theorem parse_over {n : Int} (h1 : 1000000000 < n) : parseUint (Lib.itoa n) = (0, false) := by
  obtain ⟨u, rfl⟩ := Int.eq_ofNat_of_zero_le (show 0 ≤ n by omega)
  rw [Lib.itoa_nonneg]
  exact parse_no (.inl (by rw [(dec_ok u).2.1]; omega))
theorem parse_neg {n : Int} (h : n < 0) : parseUint (Lib.itoa n) = (0, false) := by
  unfold Lib.itoa
  rw [if_pos h]
  exact parse_undig (k := 0) (b := 45) rfl (by decide)
theorem itoa_ne (n : Int) : Lib.itoa n ≠ [] := by
  unfold Lib.itoa
  by_cases h : n < 0
  · rw [if_pos h]; simp
  · rw [if_neg h]; exact (dec_ok _).2.2
end Go.Proofs.YtepjjlaipindnaaDoor.Pl
namespace Go.Proofs.YtepjjlaipindnaaDoor
open Go.RowKit
set_option linter.unusedVariables false
set_option linter.unusedSimpArgs false
theorem rowLen {w : World} {a : Option Addr} {len cap : Nat} {zs : List Int} (hr : IsRow .u8 w a len cap zs) : len ≤ 9223372036854775807 := by
  rcases hr with ⟨rfl, rfl, rfl, rfl⟩ | ⟨x, rfl, hl, hm, _⟩
  · omega
  · unfold maxLen at hm; omega
def AnInt (w : World) (e : Ending) (w' : World) : Prop := ∃ n : Int, -9223372036854775808 ≤ n ∧ n ≤ 9223372036854775807 ∧ e = .returned (.int .i64 n) ∧ Below w.heap.size w w'
theorem drawInt (a : Option Addr) (len cap : Nat) (zs : List Int) (w : World) (hr : IsRow .u8 w a len cap zs) (hl : len ≤ 1048576) : Calls Tryd.prog 17 #[.slice a len cap] w (AnInt w) := by
  have HR := Lib.hid hr
  clear hr
  go_enter Tryd.func17, Tryd.ntmps17
  go_wp2_with fail
  refine (l01New_any a len cap zs _ HR.out hl).mono ?_
  rintro e w1 ⟨g, rfl, hg, C1, hb1, hs1⟩
  have D1 := Lib.hid C1
  have HG := Lib.hid hg
  clear C1 hg hs1
  go_wp2_with fail
  refine (l01Once_any g a len cap zs _ _ D1.out (by omega) (by omega)).mono ?_
  rintro e w2 ⟨v, ⟨b, rfl⟩, rfl, C2, O2⟩
  have D2 := Lib.hid C2
  have B2 := Lib.hid (below_out hb1 O2 (by have := HG.out; omega) hb1.size)
  clear C2
  cases b
  · go_wp2_with fail
    refine (l01Number_any g a len cap zs _ D2.out).mono ?_
    rintro e w3 ⟨v, ⟨x, x0, x1, rfl⟩, rfl, C3, O3⟩
    go_wp2_with fail
    go_ret
    have := HG.out
    have := B2.out.size
    exact ⟨_, x0, x1, rfl, below_out B2.out O3 (by omega) (by omega)⟩
  · go_wp2_with fail
    refine (l01Below_any g a len cap zs _ _ D2.out (by omega) (by omega)).mono ?_
    rintro e w3 ⟨v, ⟨x, x0, x1, rfl⟩, rfl, C3, O3⟩
    have D3 := Lib.hid C3
    clear C3
    go_wp2_with fail
    refine (l01Below_any g a len cap zs _ _ D3.out (by omega) (by omega)).mono ?_
    rintro e w4 ⟨v, ⟨y, y0, y1, rfl⟩, rfl, C4, O4⟩
    have D4 := Lib.hid C4
    clear C4
    have p1 : x * (y - 1000000) ≤ x * 1000000 := Int.mul_le_mul_of_nonneg_left (by omega) x0
    have p2 : x * (-1000000) ≤ x * (y - 1000000) := Int.mul_le_mul_of_nonneg_left (by omega) x0
    have m1 : IntKind.i64.wrap (y - 1000000) = y - 1000000 := IntWalk.i64_in _ ⟨by omega, by omega⟩
    have m2 : IntKind.i64.wrap (x * (y - 1000000)) = x * (y - 1000000) := IntWalk.i64_in _ ⟨by omega, by omega⟩
    go_wp2_with fail
    go_ret
    have := HG.out
    have := B2.out.size
    exact ⟨_, by omega, by omega, rfl, below_out B2.out (O3.trans O4) (by omega) (by omega)⟩
set_option maxHeartbeats 4000000 in
theorem walkFnNumbers (a : Option Addr) (len cap : Nat) (z : List Int) (w : World) (hr : IsRow .u8 w a len cap z) (htab : Lib.TabIs Tryd.prog w "internal/strconv.uint64pow10" .u64 Lib.pow10Tab) (herr : ∃ tp p, w.var? Tryd.prog "strconv.ErrRange" = some #[.iface tp p]) (hsyn : ∃ tp p, w.var? Tryd.prog "strconv.ErrSyntax" = some #[.iface tp p]) : Calls Tryd.prog 5 #[.slice a len cap] w fun e w' => e = .returned (.bool true) ∧ Below w.heap.size w w' := by
  have HR := Lib.hid hr
  have HW := Lib.hid (show Ready w from ⟨htab, herr, hsyn⟩)
  have hlen := rowLen hr
  clear hr htab herr hsyn
  by_cases hbig : 1048576 < len
  · go_enter Tryd.func5, Tryd.ntmps5
    go_wp2_with fail
    refine (big_any _ _ _ _ hlen).mono ?_
    rintro e w' ⟨rfl, rfl⟩
    go_wp2_with fail
    go_ret
    exact ⟨rfl, Below.refl _ _⟩
  go_enter Tryd.func5, Tryd.ntmps5
  go_wp2_with fail
  refine (big_any _ _ _ _ hlen).mono ?_
  rintro e w' ⟨rfl, rfl⟩
  go_wp2_with fail
  refine (drawInt a len cap z _ HR.out (by omega)).mono ?_
  rintro e w1 ⟨n, n0, n1, rfl, hb1⟩
  have B1 := Lib.hid hb1
  have R1 := Lib.hid (HW.out.below hb1)
  clear hb1
  have hl21 : (Lib.itoa n).length ≤ 21 := Lib.itoa_length_le n n0 n1
  have hne := Pl.itoa_ne n
  go_wp2_with fail
  refine (implFormat n n0 n1 _ R1.out.1).mono ?_
  rintro e w2 ⟨rfl, hb2⟩
  have B2 := Lib.hid hb2
  have R2 := Lib.hid (R1.out.below hb2)
  clear hb2
  obtain ⟨s, hs⟩ : ∃ s : ByteArray, (⟨(Lib.itoa n).toArray⟩ : ByteArray) = s := ⟨_, rfl⟩
  have hsl : s.data.toList = Lib.itoa n := by rw [← hs]
  rw [hs]
  clear hs
  have hsz : s.size ≤ 21 := by rw [← size_list, hsl]; exact hl21
  have HSL := Lib.hid hsl
  have hbq : (s.toList == []) = false := by rw [ByteArray.toList_eq, hsl]; exact bytes_beq (by simp [hne])
  clear hsl hne hl21
  go_wp2_with fail
  refine (implParse s _ (by omega) R2.out).mono ?_
  rintro e w3 ⟨rfl, hb3⟩
  have B3 := Lib.hid hb3
  clear hb3
  obtain ⟨rt, hrt⟩ : ∃ rt, Pl.parseUint s.data.toList = rt := ⟨_, rfl⟩
  rw [hrt]
  rw [HSL.out] at hrt
  have HRT := Lib.hid hrt
  clear hrt
  by_cases c0 : 0 ≤ n
  · by_cases c1 : n ≤ 1000000000
    · obtain rfl : rt = (n, true) := by rw [← HRT.out]; exact Pl.parse_in c0 c1
      go_wp2_with fail
      go_ret
      exact ⟨rfl, later (later B1.out B2.out) B3.out⟩
    · obtain rfl : rt = (0, false) := by rw [← HRT.out]; exact Pl.parse_over (by omega)
      go_wp2_with fail
      go_ret
      exact ⟨rfl, later (later B1.out B2.out) B3.out⟩
  · obtain rfl : rt = (0, false) := by rw [← HRT.out]; exact Pl.parse_neg (by omega)
    go_wp2_with fail
    go_ret
    exact ⟨rfl, later (later B1.out B2.out) B3.out⟩
end Go.Proofs.YtepjjlaipindnaaDoor
