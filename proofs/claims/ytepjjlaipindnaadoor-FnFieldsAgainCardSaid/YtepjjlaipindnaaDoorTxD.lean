/- Contracts of the laws' draws: texts. -/
import Derived.Test.YtepjjlaipindnaaDoorTxSW
import Derived.Test.YtepjjlaipindnaaDoorDr
import Derived.WalkSmall
import Derived.Laws.Concat
namespace Go.Proofs.YtepjjlaipindnaaDoor
open Go.RowKit Go.Instr
set_option linter.unusedVariables false
set_option linter.unusedSimpArgs false
theorem byte_of {x : Int} (h0 : 0 ≤ x) (h1 : x ≤ 255) : ∃ b : UInt8, (b.toNat : Int) = x := by
  obtain ⟨m, rfl⟩ := Int.eq_ofNat_of_zero_le h0
  exact ⟨UInt8.ofNat m, by rw [UInt8.toNat_ofNat']; omega⟩
theorem bcells_set (l : List UInt8) (k : Nat) (b : UInt8) : bcells (l.set k b) = (bcells l).set k (.int .u8 (b.toNat : Int)) := by simp [bcells, List.map_set]
theorem text_one (w : World) (x : Int) (b : UInt8) (hb : (b.toNat : Int) = x) : (convert 22 9 (.slice (some ⟨w.heap.size, 0, none⟩) 1 1)).run Tryd.prog (w.alloc (.cells #[.int .u8 x] 5 (0, 0))) = .ok (.string ⟨#[b]⟩) (w.alloc (.cells #[.int .u8 x] 5 (0, 0))) := by
  subst hb
  exact text_of_row (w := w.alloc (.cells #[.int .u8 (b.toNat : Int)] 5 (0, 0))) (lo := w.heap.size) (g := w.heap.size) (m := 1) (cap := 1) (l := [b]) (World.ownsRow_lit (base := w.heap.size) (e := 5) (size := 1) w #[.int .u8 (b.toNat : Int)] 1 (Nat.le_refl _) (by unfold maxLen; omega) rfl) rfl
/-- Some text of at most B bytes. -/
def IsText (B : Nat) (v : Value) : Prop := ∃ s : ByteArray, s.size ≤ B ∧ v = .string s
def SomeText (B : Nat) (w : World) (e : Ending) (w' : World) : Prop := ∃ s : ByteArray, s.size ≤ B ∧ e = .returned (.string s) ∧ Below w.heap.size w w'
set_option maxHeartbeats 2000000 in
theorem l01Long_any (n : Int) (N : Nat) (hn : n = (N : Int)) (hN : N ≤ 100000) (x : Int) (b : UInt8) (hb : (b.toNat : Int) = x) (w : World) : Calls Tryd.prog 28 #[.int .i64 n, .int .u8 x] w (SomeText N w) := by
  subst hn
  have hx0 : 0 ≤ x := by rw [← hb]; omega
  have hx1 : x ≤ 255 := by rw [← hb]; have := b.toNat_lt; omega
  have HBX := Lib.hid hb
  clear hb
  obtain ⟨i0, hi, hz0, hz1, hz2⟩ := info_parts Tryd.infoByte
  go_enter Tryd.func28, Tryd.ntmps28
  go_wp2_with (at_make; refine wpList_make_full _ rfl _ _ 22 rfl w.heap.size 5 i0 (.int .u8 0) 1 Tryd.underlying22 hi hz0 hz1 _ _ _ _ N rfl rfl rfl rfl (by rw [hz2]; omega) (by unfold maxLen; omega) (Nat.le_refl _) ?_)
  intro w1 hown hgrow
  have O1 : Hid (Own w1 w.heap.size w1.heap.size 5 1 (.slice (some ⟨w.heap.size, 0, none⟩) N N) N (bcells (List.replicate N 0))) := by
    have := Own.of_row hown
    rw [toList_madeCells_one] at this
    show Own _ _ _ _ _ _ _ _
    simpa [bcells] using this
  have B1 : Hid (Below w.heap.size w w1) := Lib.hid ((Below.refl _ _).grown hgrow (Nat.le_refl _) (by simp))
  clear hown hgrow hi hz0 hz1 hz2
  go_wp2_with fail
  go_loopw [6] (fun i wr => ∃ (k : Nat) (ls : List UInt8), k ≤ N ∧ i = .int .i64 k ∧ Hid (ls.length = N) ∧ Hid (Own wr w.heap.size w1.heap.size 5 1 (.slice (some ⟨w.heap.size, 0, none⟩) N N) N (bcells ls)) ∧ Hid (Below w.heap.size w wr)) (fun i _ => N - (intOf i).toNat)
  case atStart => exact ⟨0, _, Nat.zero_le _, rfl, Lib.hid (by simp), O1, B1⟩
  case round =>
    obtain ⟨k, ls, hk, rfl, HL, GR, HB⟩ := hrel
    have kp0 : (0 : Int) ≤ (k : Int) := Int.natCast_nonneg _
    by_cases hlt : k < N
    · have kp1 : (k : Int) < N := by omega
      obtain ⟨g, eg, lg, hg, cc, cf⟩ := GR.out.at_ (by omega)
      injection eg with eg
      injection eg with eg
      subst eg
      have c1 : wr.cell? ⟨w.heap.size, k, none⟩ = some (.int .u8 ((ls.getD k 0).toNat : Int)) := by
        rw [cc k (by omega), bcells, List.getElem?_map, List.getElem?_eq_getElem (by rw [HL.out]; exact hlt), List.getD_eq_getElem?_getD, List.getElem?_eq_getElem (by rw [HL.out]; exact hlt)]
        rfl
      have f1 := cf k
      have l1 : w.heap.size < wr.heap.size := Nat.lt_of_lt_of_le hg GR.out.2.2
      clear cc cf
      go_wp2_with fail
      go_roundw
      case rel => exact ⟨k + 1, ls.set k b, by omega, by go_num, Lib.hid (by rw [List.length_set]; exact HL.out), Lib.hid (by rw [bcells_set, HBX.out]; exact GR.out.stored k _), Lib.hid (HB.out.setCell (Nat.le_refl _) _)⟩
      case measure => simp [intOf]; omega
    · obtain rfl : k = N := by omega
      have hrow : BRow wr w.heap.size (.slice (some ⟨w.heap.size, 0, none⟩) k k) ls := by
        have := GR.out.1
        unfold BRow
        rw [HL.out]
        exact this
      have hc := text_of_row hrow HL.out
      clear hrow
      go_wp2_with fail
      go_ret
      exact ⟨_, by rw [← size_list]; simp [HL.out], rfl, HB.out⟩
set_option maxHeartbeats 4000000 in
theorem l01Text_any (g : Nat) (a : Option Addr) (len cap : Nat) (zs : List Int) (n : Int) (N : Nat) (hn : n = (N : Int)) (hN : N ≤ 5000) (w : World) (hc : Cursor w g a len cap zs) : Calls Tryd.prog 36 #[.pointer (some ⟨g, 0, none⟩), .int .i64 n] w (Drawn (IsText N) w g a len cap zs) := by
  subst hn
  have HC := Lib.hid hc
  have hgl := hc.lt
  clear hc
  obtain ⟨i0, hi0, hz0, hz1, hz2⟩ := info_parts Tryd.infoByte
  have hN2 : ¬ (5000 : Int) < N := by omega
  go_enter Tryd.func36, Tryd.ntmps36
  go_wp2_with fail
  go_loopw [6, 5] (fun i v wr => ∃ (k gg c : Nat) (ls : List UInt8), k ≤ N ∧ i = .int .i64 k ∧ v = .slice (some ⟨gg, 0, none⟩) k c ∧ Hid (ls.length = k) ∧ Hid (wr.ownsRow w.heap.size 5 1 v k (bcells ls)) ∧ Hid (Cursor wr g a len cap zs) ∧ Hid (Out g (g + 1) w wr)) (fun i _ _ => N - (intOf i).toNat)
  case atStart => exact ⟨0, w.heap.size, 0, [], Nat.zero_le _, rfl, rfl, Lib.hid rfl, Lib.hid (World.ownsRow_lit (base := w.heap.size) (e := 5) (size := 1) w #[] 0 (Nat.le_refl _) (by unfold maxLen; omega) (by simp)), Lib.hid (HC.out.alloc _), Lib.hid ((Out.refl _ _ _).alloc _)⟩
  case round =>
    obtain ⟨k, gg, c, ls, hk, rfl, rfl, HL, HR, HCr, HO⟩ := hrel
    have kp0 : (0 : Int) ≤ (k : Int) := Int.natCast_nonneg _
    by_cases hlt : k < N
    · have kp1 : (k : Int) < N := by omega
      go_wp2_with fail
      refine (l01Byte_any g a len cap zs _ HCr.out).mono ?_
      rintro e w2 ⟨v, ⟨x, x0, x1, rfl⟩, rfl, C2, O2⟩
      have z2 : w.heap.size ≤ w2.heap.size := Nat.le_trans HO.out.size O2.size
      obtain ⟨b, hb⟩ := byte_of x0 x1
      have R2 := Lib.hid ((Own.of_row HR.out).out O2 (.inr (by omega))).1
      have D2 := Lib.hid C2
      have OO := Lib.hid (HO.out.trans O2)
      have HBX := Lib.hid hb
      clear C2 O2 hb
      go_wp2_with (refine wpList_append_lies _ rfl _ _ 22 rfl w.heap.size 5 i0 (.int .u8 0) 1 1 Tryd.underlying22 hi0 hz0 hz1 hz2 rfl (by decide) (.slice (some ⟨gg, 0, none⟩) k c) k _ rfl (World.ownsRow.alloc R2.out _) ⟨w2.heap.size, 0, none⟩ 1 1 [.int .u8 x] rfl rfl (World.news_of_block (cs := #[.int .u8 x]) (t := 5) (fr := (0, 0)) (heap_alloc_new w2 _)) (by intro u hu; simp at hu; subst hu; rfl) (by omega) (by unfold maxLen; omega) (by omega) (by simp; omega) (w2.heap.size + 1) (by simp) ?_; intro g2 c3 w3 hown3 hgrow3 hat3 hlt3; have B3 := Lib.hid (grown_keep (World.ownsRow.alloc R2.out _) hgrow3 (by simp; omega)); have X3 := Lib.hid hown3; clear hown3 hgrow3 hat3)
      have hk3 : ∀ j, j < w.heap.size → w3.heap[j]? = w2.heap[j]? := fun j hj => (B3.out.block j hj).trans (Below.heap_alloc _ _ _ (by omega))
      have D3 := Lib.hid (D2.out.keep fun j hj => hk3 j (by omega))
      have O3 : Hid (Out g (g + 1) w w3) := Lib.hid ⟨B3.out.os.trans OO.out.os, B3.out.tape.trans OO.out.tape, B3.out.output.trans OO.out.output, by have := B3.out.size; simp at this; omega, fun j hj ho => (hk3 j hj).trans (OO.out.block j hj ho)⟩
      clear hk3
      go_roundw
      case rel => exact ⟨k + 1, g2, c3, ls ++ [b], by omega, by go_num, rfl, Lib.hid (by rw [List.length_append, HL.out]; rfl), Lib.hid (by rw [bcells_append, show bcells [b] = [.int .u8 x] by simp [bcells, HBX.out]]; exact X3.out), D3, O3⟩
      case measure => simp [intOf]; omega
    · obtain rfl : k = N := by omega
      have hrow : BRow wr w.heap.size (.slice (some ⟨gg, 0, none⟩) k c) ls := by
        have := HR.out
        unfold BRow
        rw [HL.out]
        exact this
      have hc := text_of_row hrow HL.out
      clear hrow
      go_wp2_with fail
      go_ret
      exact ⟨_, ⟨_, by rw [← size_list]; simp [HL.out], rfl⟩, rfl, HCr.out, HO.out⟩
def AmongT (L : List (List UInt8)) (v : Value) : Prop := ∃ l, l ∈ L ∧ v = .string ⟨l.toArray⟩
theorem l01Pick_any (g : Nat) (a : Option Addr) (len cap : Nat) (zs : List Int) (A : Option Addr) (n c lo hi : Nat) (L : List (List UInt8)) (w : World) (hc : Cursor w g a len cap zs) (HI : Strs w lo hi (.slice A n c) L) (hg : g < lo) (hL : L.length = n) (h1 : 1 ≤ n) (h2 : n ≤ 1000) :
    Calls Tryd.prog 29 #[.pointer (some ⟨g, 0, none⟩), .slice A n c] w (Drawn (AmongT L) w g a len cap zs) := by
  have HC := Lib.hid hc
  have G := Lib.hid HI
  have HL := Lib.hid hL
  clear hc HI hL
  go_enter Tryd.func29, Tryd.ntmps29
  go_wp2_with fail
  refine (l01Below_any g a len cap zs _ _ HC.out (by omega) (by omega)).mono ?_
  rintro e w1 ⟨v, ⟨x, x0, x1, rfl⟩, rfl, C1, O1⟩
  have D1 := Lib.hid C1
  clear C1
  have G1 := Lib.hid (G.out.out O1 (.inr (by omega)))
  obtain ⟨k, rfl⟩ := Int.eq_ofNat_of_zero_le x0
  obtain ⟨gg, z, rfl, _, _, e1, cc, _, lt⟩ := G1.out.at_ HL.out (k := k) (by omega)
  have E1 := Lib.hid e1
  clear e1
  have hk : k < n := by omega
  go_wp2_with fail
  go_ret
  exact ⟨_, ⟨z, List.mem_of_getElem? E1.out, rfl⟩, rfl, D1.out, O1⟩
theorem drawHex (a : Option Addr) (len cap : Nat) (zs : List Int) (w : World) (hr : IsRow .u8 w a len cap zs) (hl : len ≤ 1048576) : Calls Tryd.prog 22 #[.slice a len cap] w (SomeText 20001 w) := by
  have HR := Lib.hid hr
  clear hr
  go_enter Tryd.func22, Tryd.ntmps22
  go_wp2_with fail
  refine (l01New_any a len cap zs _ HR.out hl).mono ?_
  rintro e w1 ⟨g, rfl, hg, C1, hb1, hs1⟩
  have D1 := Lib.hid C1
  have HG := Lib.hid hg
  clear C1 hg hs1
  go_wp2_with fail
  refine (l01Once_any g a len cap zs _ _ D1.out (by omega) (by omega)).mono ?_
  rintro e w2 ⟨v, ⟨b, rfl⟩, rfl, C2, O2⟩
  have D2 := Lib.hid C2
  have B2 := Lib.hid (below_out hb1 O2 (by have := HG.out; omega) hb1.size)
  clear C2
  cases b
  · go_wp2_with fail
    refine (l01Below_any g a len cap zs _ _ D2.out (by omega) (by omega)).mono ?_
    rintro e w3 ⟨v, ⟨x, x0, x1, rfl⟩, rfl, C3, O3⟩
    have D3 := Lib.hid C3
    clear C3
    obtain ⟨N, rfl⟩ := Int.eq_ofNat_of_zero_le x0
    go_wp2_with fail
    refine (l01Text_any g a len cap zs _ N rfl (by omega) _ D3.out).mono ?_
    rintro e w4 ⟨v, ⟨s, hs, rfl⟩, rfl, C4, O4⟩
    clear C4
    go_wp2_with fail
    go_ret
    have := HG.out
    have := B2.out.size
    exact ⟨s, by omega, rfl, below_out B2.out (O3.trans O4) (by omega) (by omega)⟩
  · go_wp2_with fail
    refine (l01Below_any g a len cap zs _ _ D2.out (by omega) (by omega)).mono ?_
    rintro e w3 ⟨v, ⟨x, x0, x1, rfl⟩, rfl, C3, O3⟩
    have D3 := Lib.hid C3
    have hg3 : g + 1 ≤ w3.heap.size := C3.lt
    clear C3
    obtain ⟨N, rfl⟩ := Int.eq_ofNat_of_zero_le x0
    go_wp2_with fail
    refine (l01Long_any _ (20000 + N) (by omega) (by omega) _ 200 rfl _).mono ?_
    rintro e w4 ⟨s, hs, rfl, hb4⟩
    have B4 := Lib.hid hb4
    clear hb4
    go_wp2_with fail
    go_ret
    have := HG.out
    have := B2.out.size
    exact ⟨s, by omega, rfl, later (below_out B2.out O3 (by omega) (by omega)) B4.out⟩
end Go.Proofs.YtepjjlaipindnaaDoor
