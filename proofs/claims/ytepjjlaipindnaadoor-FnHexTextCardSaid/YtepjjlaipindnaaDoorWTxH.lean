/- The law FnHexText: it returns true. -/
import Derived.Test.YtepjjlaipindnaaDoorTx2
import Derived.Test.YtepjjlaipindnaaDoorTxD
import Derived.Test.YtepjjlaipindnaaDoorTxP
import Derived.Test.YtepjjlaipindnaaDoorAt
namespace Go.Proofs.YtepjjlaipindnaaDoor.Pl
theorem val_dig {x : Nat} (h : x < 16) : val (dig x) = (x : Int) := by
  have h16 : ∀ x : Fin 16, val (dig x.1) = (x.1 : Int) := by decide
  exact h16 ⟨x, h⟩
theorem enc_at : ∀ (l : List UInt8) (j : Nat) (b : UInt8), l[j]? = some b → nat (l.flatMap enc) (2 * j) = dig (b.toNat / 16) ∧ nat (l.flatMap enc) (2 * j + 1) = dig (b.toNat % 16)
  | [], j, b, h => by simp at h
  | a :: l, 0, b, h => by
    have := a.toNat_lt
    obtain rfl : a = b := by simpa using h
    exact ⟨by simp [nat, enc, fig_nat (show a.toNat / 16 < 16 by omega)], by simp [nat, enc, fig_nat (show a.toNat % 16 < 16 by omega)]⟩
  | a :: l, j + 1, b, h => by
    obtain ⟨h1, h2⟩ := enc_at l j b (by simpa using h)
    rw [← h1, ← h2]
    rw [show 2 * (j + 1) = 2 * j + 1 + 1 by omega]
    exact ⟨by simp [nat, enc], by simp [nat, enc]⟩
theorem hex_length (l : List UInt8) : (l.flatMap enc).length = 2 * l.length := by rw [← encTo_all, encTo_length l _ (Nat.le_refl _)]
theorem hex_back {l : List UInt8} (h : l.length ≤ 20000) : decodeHex (l.flatMap enc) = (l, true) := by
  have hlen := hex_length l
  have key : ∀ j, j < l.length → good (l.flatMap enc) j = true ∧ pair (l.flatMap enc) j = l.getD j 0 := fun j hj => by
    have hb : l[j]? = some l[j] := List.getElem?_eq_getElem hj
    have hlt := l[j].toNat_lt
    obtain ⟨h1, h2⟩ := enc_at l j _ hb
    have v1 := val_dig (show l[j].toNat / 16 < 16 by omega)
    have v2 := val_dig (show l[j].toNat % 16 < 16 by omega)
    have hg : good (l.flatMap enc) j = true := by
      unfold good
      rw [h1, h2, v1, v2]
      simp
      omega
    refine ⟨hg, ?_⟩
    have hp := pair_nat hg
    rw [h1, h2, v1, v2] at hp
    rw [List.getD_eq_getElem?_getD, hb]
    apply UInt8.toNat_inj.1
    show _ = l[j].toNat
    omega
  unfold decodeHex
  rw [hlen, show 2 * l.length / 2 = l.length by omega, if_pos ⟨by omega, by omega, by
    unfold goodTo
    rw [List.all_eq_true]
    intro j hj
    exact (key j (by simpa using hj)).1⟩]
  congr 1
  apply List.ext_getElem?
  intro j
  unfold decTo
  by_cases hj : j < l.length
  · rw [List.getElem?_map, List.getElem?_range hj]
    simp only [Option.map_some]
    rw [(key j hj).2, List.getD_eq_getElem?_getD, List.getElem?_eq_getElem hj]
    rfl
  · rw [List.getElem?_eq_none (by simp; omega), List.getElem?_eq_none (by omega)]
theorem itoa_ten : Lib.itoa 10 = [49, 48] := by
  rw [show (10 : Int) = ((10 : Nat) : Int) by rfl, Lib.itoa_nonneg, Lib.decDigits, dif_neg (by decide), Lib.decDigits, dif_pos (by decide)]
  rfl
end Go.Proofs.YtepjjlaipindnaaDoor.Pl
namespace Go.Proofs.YtepjjlaipindnaaDoor
open Go.RowKit
set_option linter.unusedVariables false
set_option linter.unusedSimpArgs false
theorem rowLenH {w : World} {a : Option Addr} {len cap : Nat} {zs : List Int} (hr : IsRow .u8 w a len cap zs) : len ≤ 9223372036854775807 := by
  rcases hr with ⟨rfl, rfl, rfl, rfl⟩ | ⟨x, rfl, hl, hm, _⟩
  · omega
  · unfold maxLen at hm; omega
set_option maxHeartbeats 4000000 in
theorem walkFnHexText (a : Option Addr) (len cap : Nat) (z : List Int) (w : World) (hr : IsRow .u8 w a len cap z) (htab : Lib.TabIs Tryd.prog w "internal/strconv.uint64pow10" .u64 Lib.pow10Tab) : Calls Tryd.prog 8 #[.slice a len cap] w fun e w' => e = .returned (.bool true) ∧ Below w.heap.size w w' := by
  have HR := Lib.hid hr
  have HT := Lib.hid htab
  have hlen := rowLenH hr
  clear hr htab
  by_cases hbig : 1048576 < len
  · go_enter Tryd.func8, Tryd.ntmps8
    go_wp2_with fail
    refine (big_any _ _ _ _ hlen).mono ?_
    rintro e w' ⟨rfl, rfl⟩
    go_wp2_with fail
    go_ret
    exact ⟨rfl, Below.refl _ _⟩
  go_enter Tryd.func8, Tryd.ntmps8
  go_wp2_with fail
  refine (big_any _ _ _ _ hlen).mono ?_
  rintro e w' ⟨rfl, rfl⟩
  go_wp2_with fail
  refine (drawHex a len cap z _ HR.out (by omega)).mono ?_
  rintro e w1 ⟨s, hs, rfl, hb1⟩
  have B1 := Lib.hid hb1
  clear hb1
  go_wp2_with fail
  refine (implEncode s _ (by omega)).mono ?_
  have hl := size_list s
  have hsl := ByteArray.toList_eq s
  obtain ⟨l, hll⟩ : ∃ l, l = s.data.toList := ⟨_, rfl⟩
  rw [← hll] at hl hsl ⊢
  obtain ⟨n, hn⟩ : ∃ n, s.size = n := ⟨_, rfl⟩
  rw [hn] at hs hl
  have HLL := Lib.hid hll
  have HL := Lib.hid hl
  clear hll hl
  by_cases hbg : 20000 < n
  · have hbi : (20000 : Int) < n := by omega
    have hp : Pl.encodeHex l = ([], false) := by unfold Pl.encodeHex; rw [if_pos (by rw [HL.out]; exact hbg)]
    rw [hp]
    rintro e w2 ⟨rfl, hb2⟩
    have B2 := Lib.hid hb2
    clear hb2 hp
    have hT := Lib.hid (pow_below HT.out (later B1.out B2.out))
    go_wp2_with fail
    refine (implFormat 10 (by omega) (by omega) _ hT.out).mono ?_
    rw [Pl.itoa_ten]
    rintro e w3 ⟨rfl, hb3⟩
    have B3 := Lib.hid hb3
    clear hb3
    go_wp2_with fail
    go_ret
    exact ⟨rfl, later (later B1.out B2.out) B3.out⟩
  · have hbi : ¬ (20000 : Int) < n := by omega
    have hp : Pl.encodeHex l = (l.flatMap Pl.enc, true) := by unfold Pl.encodeHex; rw [if_neg (by rw [HL.out]; exact hbg)]
    rw [hp]
    rintro e w2 ⟨rfl, hb2⟩
    have B2 := Lib.hid hb2
    clear hb2 hp
    have hel := Pl.hex_length l
    rw [HL.out] at hel
    have hdec : Pl.decodeHex (l.flatMap Pl.enc) = (l, true) := Pl.hex_back (by rw [HL.out]; omega)
    obtain ⟨h, hh⟩ : ∃ h : ByteArray, (⟨(l.flatMap Pl.enc).toArray⟩ : ByteArray) = h := ⟨_, rfl⟩
    have hhl : h.data.toList = l.flatMap Pl.enc := by rw [← hh]
    dsimp only
    rw [hh]
    rw [← hhl] at hel hdec
    have hhs : h.size = 2 * n := by rw [← size_list]; exact hel
    have HD := Lib.hid hdec
    clear hh hhl hel hdec
    have hm2 : IntKind.i64.wrap (2 * (n : Int)) = 2 * (n : Int) := IntWalk.i64_in _ ⟨by omega, by omega⟩
    go_wp2_with fail
    refine (implDecode h _ (by omega)).mono ?_
    rw [HD.out]
    rintro e w3 ⟨rfl, hb3⟩
    have B3 := Lib.hid hb3
    clear hb3
    have hbq : (l == l) = true := by simp
    go_wp2_with fail
    go_ret
    exact ⟨rfl, later (later B1.out B2.out) B3.out⟩
end Go.Proofs.YtepjjlaipindnaaDoor
