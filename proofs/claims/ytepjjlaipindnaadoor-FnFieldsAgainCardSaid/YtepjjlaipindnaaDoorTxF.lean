/- Contracts over texts: FormatInt of both sides. -/
import Derived.Test.YtepjjlaipindnaaDoorTx1
import Derived.Test.YtepjjlaipindnaaDoorShelfT
import Derived.Lib.ItoaMem
import Derived.Lib.ItoaLen
import Derived.Laws.Concat
import Derived.WalkSmall
import Derived.Lib.AppendIntMem
namespace Go.Proofs.YtepjjlaipindnaaDoor
open Go.RowKit Go.Instr
set_option linter.unusedVariables false
set_option linter.unusedSimpArgs false
/-- A text by its bytes. -/
theorem text_eq {s : ByteArray} {l : List UInt8} (h : s.data.toList = l) : s = ⟨l.toArray⟩ := by subst h; rfl
theorem text_add (c : UInt8) (s : ByteArray) : ((⟨#[c]⟩ : ByteArray) ++ s).data.toList = c :: s.data.toList := by simp
theorem text_app (s t : ByteArray) : (s ++ t).data.toList = s.data.toList ++ t.data.toList := by simp
theorem digits_small {u : Nat} (h : u < 10) : Lib.decDigits u = [Pl.fig u] := by
  rw [Lib.decDigits, dif_pos h]
  unfold Pl.fig Pl.dig
  rw [if_pos h]
theorem digits_big {u : Nat} (h : ¬ u < 10) : Lib.decDigits u = Lib.decDigits (u / 10) ++ [Pl.fig (u % 10)] := by
  rw [Lib.decDigits, dif_neg h]
  unfold Pl.fig Pl.dig
  rw [if_pos (Nat.mod_lt _ (by decide))]
/-- What the loop of FormatInt has: m is left, l stands already. -/
def Left (u m : Nat) (l : List UInt8) : Prop := (m = 0 ∧ l = Lib.decDigits u) ∨ (0 < m ∧ Lib.decDigits m ++ l = Lib.decDigits u)
theorem Left.step {u m : Nat} {l : List UInt8} (h : Left u m l) (hm : 0 < m) : Left u (m / 10) (Pl.fig (m % 10) :: l) := by
  rcases h with ⟨h, _⟩ | ⟨_, h⟩
  · omega
  · by_cases h10 : m < 10
    · rw [digits_small h10] at h
      refine .inl ⟨by omega, ?_⟩
      rw [Nat.mod_eq_of_lt h10]
      simpa using h
    · rw [digits_big h10] at h
      refine .inr ⟨by omega, ?_⟩
      simpa using h
theorem Left.len {u m : Nat} {l : List UInt8} (h : Left u m l) : l.length ≤ (Lib.decDigits u).length := by
  rcases h with ⟨_, h⟩ | ⟨_, h⟩
  · rw [h]; exact Nat.le_refl _
  · rw [← h]; simp
theorem digits_len (n : Int) (h0 : -9223372036854775808 ≤ n) (h1 : n ≤ 9223372036854775807) : (Lib.decDigits n.natAbs).length ≤ 21 := by
  have h := Lib.itoa_length_le n h0 h1
  unfold Lib.itoa at h
  by_cases hn : n < 0
  · rw [if_pos hn] at h; simp at h; omega
  · rw [if_neg hn] at h
    rw [show n.natAbs = n.toNat by omega]
    exact h
theorem implFormat (n : Int) (h0 : -9223372036854775808 ≤ n) (h1 : n ≤ 9223372036854775807) (w : World) (htab : Lib.TabIs Tryd.prog w "internal/strconv.uint64pow10" .u64 Lib.pow10Tab) : Calls Tryd.prog 13 #[.int .i64 n] w fun e w' => e = .returned (.string ⟨(Lib.itoa n).toArray⟩) ∧ Below w.heap.size w w' := by
  go_enter Tryd.func13, Tryd.ntmps13
  go_wp2_with fail
  refine (Tryd.strconv_Itoa n h0 h1 w htab).mono ?_
  rintro e w' ⟨rfl, k, os, hw⟩
  have hb : Below w.heap.size w w' := by rw [hw]; exact Lib.below_grow w.heap.size w (Nat.le_refl _) k os
  have HB := Lib.hid hb
  clear hb hw
  go_wp2_with fail
  go_ret
  exact ⟨rfl, HB.out⟩
set_option maxRecDepth 100000 in
set_option maxHeartbeats 4000000 in
theorem specFormat (n : Int) (h0 : -9223372036854775808 ≤ n) (h1 : n ≤ 9223372036854775807) (w : World) : Calls Tryd.prog 18 #[.int .i64 n] w fun e w' => e = .returned (.string ⟨(Lib.itoa n).toArray⟩) ∧ Below w.heap.size w w' := by
  by_cases hn : n = 0
  · subst hn
    go_enter Tryd.func18, Tryd.ntmps18
    go_wp2_with fail
    go_ret
    exact ⟨by rw [show Lib.itoa 0 = [48] by rw [show (0 : Int) = ((0 : Nat) : Int) by rfl, Lib.itoa_nonneg, digits_small (by omega)]; decide]; rfl, Below.refl _ _⟩
  have hn0 : (n == 0) = false := by simpa using hn
  have hlen := digits_len n h0 h1
  obtain ⟨u, hu⟩ : ∃ u, n.natAbs = u := ⟨_, rfl⟩
  rw [hu] at hlen
  have HLEN := Lib.hid hlen
  clear hlen
  by_cases hneg : n < 0
  · skip
    have hit : Lib.itoa n = 45 :: Lib.decDigits u := by unfold Lib.itoa; rw [if_pos hneg, hu]
    have hz0 : n = -(u : Int) := by omega
    have HIT := Lib.hid hit
    have HZ0 := Lib.hid hz0
    have hu1 : 0 < u := by omega
    clear hit hz0 hu
    go_enter Tryd.func18, Tryd.ntmps18
    go_wp2_with fail
    go_loopw [0, 4] (fun zv sv wr => ∃ (m : Nat) (z : Int) (s : ByteArray) (l : List UInt8), zv = .int .i64 z ∧ sv = .string s ∧ z.natAbs ≤ 9223372036854775808 ∧ Hid (z = -(m : Int)) ∧ Hid (s.data.toList = l) ∧ Hid (Left u m l) ∧ Hid (Below w.heap.size w wr)) (fun zv _ _ => (intOf zv).natAbs)
    case atStart => exact ⟨u, n, _, [], rfl, rfl, by omega, Lib.hid HZ0.out, Lib.hid rfl, Lib.hid (.inr ⟨hu1, by simp⟩), Lib.hid (Below.refl _ _)⟩
    case round =>
      obtain ⟨m, z, s, l, rfl, rfl, hzb, HZ, HS, HL, HB⟩ := hrel
      by_cases hz : z = 0
      case pos =>
        subst hz
        have hm : m = 0 := by have := HZ.out; omega
        have hl : l = Lib.decDigits u := by rcases HL.out with ⟨_, h⟩ | ⟨h, _⟩; exact h; omega
        have hs := text_eq (HS.out.trans hl)
        have hsz : s.size ≤ 21 := by rw [← size_list, HS.out, hl]; exact HLEN.out
        have hadd := fun w => run_string_add_sum (P := Tryd.prog) w ⟨#[45]⟩ s (by show 1 + s.size ≤ _; omega)
        obtain ⟨t, ht⟩ : ∃ t, (⟨#[45]⟩ : ByteArray) ++ s = t := ⟨_, rfl⟩
        simp only [ht] at hadd
        have htl : t = ⟨(Lib.itoa n).toArray⟩ := text_eq (by rw [← ht, text_add, HS.out, hl, HIT.out])
        have HTL := Lib.hid htl
        clear htl ht hs hl hm
        go_wp2_with fail
        go_ret
        exact ⟨by rw [← HTL.out]; rfl, HB.out⟩
      have hm : 0 < m := by have := HZ.out; omega
      have hstep := HL.out.step hm
      have HST := Lib.hid hstep
      clear hstep
      have hsz : s.size ≤ 21 := by rw [← size_list, HS.out]; exact Nat.le_trans HL.out.len HLEN.out
      obtain ⟨e, he⟩ : ∃ e, m % 10 = e := ⟨_, rfl⟩
      obtain ⟨q, hq⟩ : ∃ q, m / 10 = q := ⟨_, rfl⟩
      rw [he, hq] at HST
      have he10 : e < 16 := by omega
      obtain ⟨d, hd⟩ : ∃ d, z.tmod 10 = d := ⟨_, rfl⟩
      obtain ⟨zq, hzq⟩ : ∃ zq, z.tdiv 10 = zq := ⟨_, rfl⟩
      have hde : d = -(e : Int) := by rw [← hd, HZ.out, Int.neg_tmod, Int.tmod_eq_emod_of_nonneg (by omega)]; omega
      have hqe : zq = -(q : Int) := by rw [← hzq, HZ.out, Int.neg_tdiv, Int.tdiv_eq_ediv_of_nonneg (by omega)]; omega
      have hqb : zq.natAbs < z.natAbs := by have := HZ.out; omega
      have hq2 : zq.natAbs ≤ 9223372036854775807 := by omega
      have wd : IntKind.i64.wrap d = d := IntWalk.i64_in _ ⟨by omega, by omega⟩
      have wz : IntKind.i64.wrap zq = zq := IntWalk.i64_in _ ⟨by omega, by omega⟩
      have HQE := Lib.hid hqe
      have HDE := Lib.hid hde
      have he9 : e < 10 := by omega
      clear hqe he hq
      have hadd := fun w => run_string_add_sum (P := Tryd.prog) w ⟨#[Pl.fig e]⟩ s (by show 1 + s.size ≤ _; omega)
      obtain ⟨t, ht⟩ : ∃ t, (⟨#[Pl.fig e]⟩ : ByteArray) ++ s = t := ⟨_, rfl⟩
      simp only [ht] at hadd
      have htl : t.data.toList = Pl.fig e :: l := by rw [← ht, text_add, HS.out]
      have HTL := Lib.hid htl
      clear htl ht
      have hc := text_of_row (w := wr.alloc (.cells #[.int .u8 ((Pl.fig e).toNat : Int)] 5 (0, 0))) (lo := wr.heap.size) (g := wr.heap.size) (m := 1) (cap := 1) (l := [Pl.fig e]) (World.ownsRow_lit (base := wr.heap.size) (e := 5) (size := 1) wr #[.int .u8 ((Pl.fig e).toNat : Int)] 1 (Nat.le_refl _) (by unfold maxLen; omega) rfl) rfl
      have B1 := Lib.hid (HB.out.alloc HB.out.size (.cells #[.int .u8 ((Pl.fig e).toNat : Int)] 5 (0, 0)))
      by_cases hd0 : d < 0
      case pos =>
        have wn : IntKind.i64.wrap (-d) = -d := IntWalk.i64_in _ ⟨by omega, by omega⟩
        clear hde
        go_wp2_with (go_at_call 34; ((with_reducible refine (figureI _ e _ (by have := HDE.out; omega) he10).mono ?_)); rintro e9 w9 ⟨rfl, rfl⟩)
        go_roundw
        case rel => exact ⟨q, zq, t, _, rfl, rfl, by omega, HQE, HTL, HST, B1⟩
        case measure => simp [intOf]; omega
      case neg =>
        clear hde
        go_wp2_with (go_at_call 34; ((with_reducible refine (figureI _ e _ (by have := HDE.out; omega) he10).mono ?_)); rintro e9 w9 ⟨rfl, rfl⟩)
        go_roundw
        case rel => exact ⟨q, zq, t, _, rfl, rfl, by omega, HQE, HTL, HST, B1⟩
        case measure => simp [intOf]; omega
  · skip
    have hit : Lib.itoa n = Lib.decDigits u := by unfold Lib.itoa; rw [if_neg hneg, ← hu]; congr 1; omega
    have hz0 : n = (u : Int) := by omega
    have HIT := Lib.hid hit
    have HZ0 := Lib.hid hz0
    have hu1 : 0 < u := by omega
    clear hit hz0 hu
    go_enter Tryd.func18, Tryd.ntmps18
    go_wp2_with fail
    go_loopw [0, 4] (fun zv sv wr => ∃ (m : Nat) (z : Int) (s : ByteArray) (l : List UInt8), zv = .int .i64 z ∧ sv = .string s ∧ z.natAbs ≤ 9223372036854775808 ∧ Hid (z = (m : Int)) ∧ Hid (s.data.toList = l) ∧ Hid (Left u m l) ∧ Hid (Below w.heap.size w wr)) (fun zv _ _ => (intOf zv).natAbs)
    case atStart => exact ⟨u, n, _, [], rfl, rfl, by omega, Lib.hid HZ0.out, Lib.hid rfl, Lib.hid (.inr ⟨hu1, by simp⟩), Lib.hid (Below.refl _ _)⟩
    case round =>
      obtain ⟨m, z, s, l, rfl, rfl, hzb, HZ, HS, HL, HB⟩ := hrel
      by_cases hz : z = 0
      case pos =>
        subst hz
        have hm : m = 0 := by have := HZ.out; omega
        have hl : l = Lib.decDigits u := by rcases HL.out with ⟨_, h⟩ | ⟨h, _⟩; exact h; omega
        have hs := text_eq (HS.out.trans hl)
        have HTL := Lib.hid (show s = ⟨(Lib.itoa n).toArray⟩ by rw [HIT.out]; exact hs)
        clear hs hl hm
        go_wp2_with fail
        go_ret
        exact ⟨by rw [← HTL.out]; rfl, HB.out⟩
      have hm : 0 < m := by have := HZ.out; omega
      have hstep := HL.out.step hm
      have HST := Lib.hid hstep
      clear hstep
      have hsz : s.size ≤ 21 := by rw [← size_list, HS.out]; exact Nat.le_trans HL.out.len HLEN.out
      obtain ⟨e, he⟩ : ∃ e, m % 10 = e := ⟨_, rfl⟩
      obtain ⟨q, hq⟩ : ∃ q, m / 10 = q := ⟨_, rfl⟩
      rw [he, hq] at HST
      have he10 : e < 16 := by omega
      obtain ⟨d, hd⟩ : ∃ d, z.tmod 10 = d := ⟨_, rfl⟩
      obtain ⟨zq, hzq⟩ : ∃ zq, z.tdiv 10 = zq := ⟨_, rfl⟩
      have hde : d = (e : Int) := by rw [← hd, HZ.out, Int.tmod_eq_emod_of_nonneg (by omega)]; omega
      have hqe : zq = (q : Int) := by rw [← hzq, HZ.out, Int.tdiv_eq_ediv_of_nonneg (by omega)]; omega
      have hqb : zq.natAbs < z.natAbs := by have := HZ.out; omega
      have hq2 : zq.natAbs ≤ 9223372036854775807 := by omega
      have wd : IntKind.i64.wrap d = d := IntWalk.i64_in _ ⟨by omega, by omega⟩
      have wz : IntKind.i64.wrap zq = zq := IntWalk.i64_in _ ⟨by omega, by omega⟩
      have HQE := Lib.hid hqe
      have HDE := Lib.hid hde
      have he9 : e < 10 := by omega
      clear hqe he hq
      have hadd := fun w => run_string_add_sum (P := Tryd.prog) w ⟨#[Pl.fig e]⟩ s (by show 1 + s.size ≤ _; omega)
      obtain ⟨t, ht⟩ : ∃ t, (⟨#[Pl.fig e]⟩ : ByteArray) ++ s = t := ⟨_, rfl⟩
      simp only [ht] at hadd
      have htl : t.data.toList = Pl.fig e :: l := by rw [← ht, text_add, HS.out]
      have HTL := Lib.hid htl
      clear htl ht
      have hc := text_of_row (w := wr.alloc (.cells #[.int .u8 ((Pl.fig e).toNat : Int)] 5 (0, 0))) (lo := wr.heap.size) (g := wr.heap.size) (m := 1) (cap := 1) (l := [Pl.fig e]) (World.ownsRow_lit (base := wr.heap.size) (e := 5) (size := 1) wr #[.int .u8 ((Pl.fig e).toNat : Int)] 1 (Nat.le_refl _) (by unfold maxLen; omega) rfl) rfl
      have B1 := Lib.hid (HB.out.alloc HB.out.size (.cells #[.int .u8 ((Pl.fig e).toNat : Int)] 5 (0, 0)))
      have hd0 : ¬ d < 0 := by omega
      clear hde
      go_wp2_with (go_at_call 34; ((with_reducible refine (figureI _ e _ (by have := HDE.out; omega) he10).mono ?_)); rintro e9 w9 ⟨rfl, rfl⟩)
      go_roundw
      case rel => exact ⟨q, zq, t, _, rfl, rfl, by omega, HQE, HTL, HST, B1⟩
      case measure => simp [intOf]; omega
end Go.Proofs.YtepjjlaipindnaaDoor
