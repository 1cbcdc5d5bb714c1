/- The law FnFieldsAgain: it returns true. -/
import Derived.Test.YtepjjlaipindnaaDoorTxD2
import Derived.Test.YtepjjlaipindnaaDoorTxS1
import Derived.Test.YtepjjlaipindnaaDoorTxS2
import Derived.Test.YtepjjlaipindnaaDoorTxP
import Derived.Test.YtepjjlaipindnaaDoorAt
namespace Go.Proofs.YtepjjlaipindnaaDoor.Pl
theorem split_no {l : List UInt8} {ps : List (List UInt8)} (h : splitFields l = (ps, false)) : ps = [] := by
  unfold splitFields at h
  split at h
  · injection h with _ h; cases h
  · injection h with h; exact h.symm
theorem itoa_minus : Lib.itoa (-3) = [45, 51] := by
  unfold Lib.itoa
  rw [if_pos (by decide), show (-3 : Int).natAbs = 3 by rfl, Lib.decDigits, dif_pos (by decide)]
  rfl
end Go.Proofs.YtepjjlaipindnaaDoor.Pl
namespace Go.Proofs.YtepjjlaipindnaaDoor
open Go.RowKit
set_option linter.unusedVariables false
set_option linter.unusedSimpArgs false
theorem rowLenA {w : World} {a : Option Addr} {len cap : Nat} {zs : List Int} (hr : IsRow .u8 w a len cap zs) : len ≤ 9223372036854775807 := by
  rcases hr with ⟨rfl, rfl, rfl, rfl⟩ | ⟨x, rfl, hl, hm, _⟩
  · omega
  · unfold maxLen at hm; omega
set_option maxRecDepth 100000 in
set_option maxHeartbeats 8000000 in
theorem walkFnFieldsAgain (a : Option Addr) (len cap : Nat) (z : List Int) (w : World) (hr : IsRow .u8 w a len cap z) (htab : Lib.TabIs Tryd.prog w "internal/strconv.uint64pow10" .u64 Lib.pow10Tab) (hspc : Lib.TabIs Tryd.prog w "strings.asciiSpace" .u8 Lib.asciiSpaceTab) : Calls Tryd.prog 3 #[.slice a len cap] w fun e w' => e = .returned (.bool true) ∧ Below w.heap.size w w' := by
  have HR := Lib.hid hr
  have HT := Lib.hid htab
  have HC := Lib.hid hspc
  have hlen := rowLenA hr
  clear hr htab hspc
  by_cases hbig : 1048576 < len
  · go_enter Tryd.func3, Tryd.ntmps3
    go_wp2_with fail
    refine (big_any _ _ _ _ hlen).mono ?_
    rintro e w' ⟨rfl, rfl⟩
    go_wp2_with fail
    go_ret
    exact ⟨rfl, Below.refl _ _⟩
  go_enter Tryd.func3, Tryd.ntmps3
  go_wp2_with fail
  refine (big_any _ _ _ _ hlen).mono ?_
  rintro e w' ⟨rfl, rfl⟩
  go_wp2_with fail
  refine (drawLine a len cap z _ HR.out (by omega)).mono ?_
  rintro e w1 ⟨s, hs, rfl, hb1⟩
  have B1 := Lib.hid hb1
  have z1 := hb1.size
  clear hb1
  go_wp2_with fail
  refine (implSplit s _ (by omega) (space_below HC.out B1.out)).mono ?_
  generalize hr : Pl.splitFields s.data.toList = r
  have hcnt := Pl.split_len s.data.toList
  rw [hr] at hcnt
  have HRR := Lib.hid hr
  clear hr
  obtain ⟨L, ok⟩ := r
  rintro e w2 ⟨A1, n1, c1, rfl, hn1, hS1, hb2⟩
  dsimp only at hn1 hS1 hcnt
  have B2 := Lib.hid (later B1.out hb2)
  have S1 := Lib.hid hS1
  have N1 := Lib.hid hn1
  have hc1 : n1 ≤ 24 := by rw [← hn1]; exact hcnt
  have z2 := hb2.size
  clear hb2 hS1 hn1 hcnt
  go_wp2_with fail
  refine (specSplit s _ (by omega)).mono ?_
  rw [HRR.out]
  rintro e w3 ⟨A2, n2, c2, rfl, hn2, hS2, hb3⟩
  clear hn2 hS2
  have B3 := Lib.hid (later B2.out hb3)
  have S3 := Lib.hid (S1.out.below hb3 (Nat.le_refl _))
  have z3 := hb3.size
  clear hb3
  cases ok
  · obtain rfl : n1 = 0 := by rw [← N1.out, Pl.split_no HRR.out]; rfl
    have hT := Lib.hid (pow_below HT.out B3.out)
    go_wp2_with fail
    refine (implFormat (-3) (by omega) (by omega) _ hT.out).mono ?_
    rw [Pl.itoa_minus]
    rintro e w4 ⟨rfl, hb4⟩
    have B4 := Lib.hid hb4
    clear hb4
    go_wp2_with fail
    go_ret
    exact ⟨rfl, later B3.out B4.out⟩
  go_wp2_with fail
  go_loopw [9, 8] (fun iv sv wr => ∃ (k : Nat) (t : ByteArray), k ≤ n1 ∧ iv = .int .i64 k ∧ sv = .string t ∧ t.size ≤ 601 ∧ Hid (t.data.toList = (L.take k).flatMap fun f => f ++ [32]) ∧ Hid (Below w3.heap.size w3 wr)) (fun iv _ _ => n1 - (intOf iv).toNat)
  case atStart => exact ⟨0, ⟨#[]⟩, Nat.zero_le _, rfl, rfl, by show 0 ≤ _; omega, Lib.hid rfl, Lib.hid (Below.refl _ _)⟩
  case round =>
    obtain ⟨k, t, hk, rfl, rfl, ht, HJ, HB⟩ := hrel
    have kp0 : (0 : Int) ≤ (k : Int) := Int.natCast_nonneg _
    by_cases hlt : k < n1
    · have kp1 : (k : Int) < n1 := by omega
      obtain ⟨g, p, rfl, hg1, hg2, e1, cc1, _, lt1⟩ := (S3.out.below HB.out S3.out.hi_le).at_ N1.out hlt
      have hj := Pl.join_take e1
      have hjl := Pl.join_len HRR.out (k + 1)
      rw [hj] at hjl
      rw [← HJ.out] at hj hjl
      have hp : p.length + t.size + 1 ≤ 601 := by simp at hjl; omega
      have HJ2 := Lib.hid hj
      clear e1 hj hjl
      obtain ⟨q, hq⟩ : ∃ q : ByteArray, (⟨p.toArray⟩ : ByteArray) = q := ⟨_, rfl⟩
      have hql : q.data.toList = p := by rw [← hq]
      have hqs : q.size = p.length := by rw [← size_list, hql]
      rw [hq] at cc1
      clear hq
      have hadd := fun w => run_string_add_sum (P := Tryd.prog) w t q (by omega)
      obtain ⟨t1, ht1⟩ : ∃ t1 : ByteArray, t ++ q = t1 := ⟨_, rfl⟩
      have hz1 : t1.size = t.size + q.size := by rw [← ht1, text_sum]
      have hl1 : t1.data.toList = t.data.toList ++ p := by rw [← ht1, text_app, hql]
      simp only [ht1] at hadd
      have hadd2 := fun w => run_string_add_sum (P := Tryd.prog) w t1 ⟨#[32]⟩ (by show t1.size + 1 ≤ _; omega)
      obtain ⟨t2, ht2⟩ : ∃ t2 : ByteArray, t1 ++ (⟨#[32]⟩ : ByteArray) = t2 := ⟨_, rfl⟩
      have hz2 : t2.size = t1.size + 1 := by rw [← ht2, text_sum]; rfl
      have hl2 : t2.data.toList = t.data.toList ++ p ++ [32] := by rw [← ht2, text_app, hl1]
      simp only [ht2] at hadd2
      have HL2 := Lib.hid (hl2.trans HJ2.out.symm)
      clear ht1 ht2 hl1 hl2 hql
      go_wp2_with fail
      go_roundw
      case rel => exact ⟨k + 1, t2, by omega, by go_num, rfl, by omega, HL2, HB⟩
      case measure => simp [intOf]; omega
    have kp1 : ¬ (k : Int) < n1 := by omega
    obtain rfl : k = n1 := by omega
    have hjn := HJ.out
    rw [List.take_of_length_le (by rw [N1.out]; exact Nat.le_refl _)] at hjn
    have HJN := Lib.hid hjn
    clear hjn
    have B4 := Lib.hid (later B3.out HB.out)
    have S4 := Lib.hid (S3.out.below HB.out S3.out.hi_le)
    have z4 := HB.out.size
    by_cases h6 : 600 < t.size
    · have h6i : (600 : Int) < t.size := by omega
      go_wp2_with fail
      refine (implSplit t _ (by omega) (space_below HC.out B4.out)).mono ?_
      rw [Pl.split_long (by rw [size_list]; exact h6)]
      rintro e w5 ⟨A5, n5, c5, rfl, hn5, hS5, hb5⟩
      have B5 := Lib.hid hb5
      clear hn5 hS5 hb5
      go_wp2_with fail
      go_ret
      exact ⟨rfl, later B4.out B5.out⟩
    · have h6i : ¬ (600 : Int) < t.size := by omega
      have hag := Pl.split_again HRR.out HJN.out (by rw [size_list]; omega)
      have HAG := Lib.hid hag
      clear hag
      go_wp2_with fail
      refine (implSplit t _ (by omega) (space_below HC.out B4.out)).mono ?_
      rw [HAG.out]
      rintro e w5 ⟨A5, n5, c5, rfl, hn5, hS5, hb5⟩
      dsimp only at hn5 hS5
      have B5 := Lib.hid hb5
      have S5 := Lib.hid hS5
      have S45 := Lib.hid (S4.out.below hb5 S4.out.hi_le)
      clear hn5 hS5 hb5
      go_wp2_with fail
      refine (sameTexts_same _ _ _ _ _ _ _ _ _ _ _ _ S45.out S5.out).mono ?_
      rintro e w6 ⟨rfl, hb6⟩
      have B6 := Lib.hid hb6
      clear hb6
      go_wp2_with fail
      go_ret
      exact ⟨rfl, later (later B4.out B5.out) B6.out⟩
end Go.Proofs.YtepjjlaipindnaaDoor
