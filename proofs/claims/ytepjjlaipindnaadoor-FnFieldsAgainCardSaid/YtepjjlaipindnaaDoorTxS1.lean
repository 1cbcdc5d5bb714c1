/- Contracts over texts: SplitFields of both sides. -/
import Derived.Test.YtepjjlaipindnaaDoorTxSW
import Derived.Test.YtepjjlaipindnaaDoorShelfT
import Derived.Test.YtepjjlaipindnaaDoorMem
import Derived.Laws.DeepStrings4
import Derived.WalkSmall
namespace Go.Proofs.YtepjjlaipindnaaDoor
open Go.RowKit Go.Instr
set_option linter.unusedVariables false
set_option linter.unusedSimpArgs false
theorem glob_lt {w : World} {n : String} {g : Nat} {cs : Array Value} (hg : Tryd.prog.globalNamed n = some g) (h : w.var? Tryd.prog n = some cs) : g < w.heap.size := by
  unfold World.var? at h
  simp only [hg, Option.bind_some] at h
  by_cases hx : g < w.heap.size
  · exact hx
  · rw [Array.getElem?_eq_none (by omega)] at h
    cases h
theorem space_below {w w' : World} (h : Lib.TabIs Tryd.prog w "strings.asciiSpace" .u8 Lib.asciiSpaceTab) (hb : Below w.heap.size w w') : Lib.TabIs Tryd.prog w' "strings.asciiSpace" .u8 Lib.asciiSpaceTab :=
  var?_below (P := Tryd.prog) hb (g := 0) (by kernel_rfl) (glob_lt (by kernel_rfl) h) h
theorem piece_of {s : ByteArray} {l : List UInt8} {b k : Nat} (h : s.data.toList = l) : s.extract b k = ⟨((l.drop b).take (k - b)).toArray⟩ := by
  subst h
  obtain ⟨⟨l⟩⟩ := s
  apply ByteArray.ext
  apply Array.ext'
  simp [List.extract_eq_take_drop]
/-- What SplitFields gives back: a new row of the fields (or nil), and whether the line was taken. -/
def Split (w : World) (r : List (List UInt8) × Bool) (e : Ending) (w' : World) : Prop := ∃ A n cap, e = .returned (.tuple #[.slice A n cap, .bool r.2]) ∧ r.1.length = n ∧ Strs w' w.heap.size w'.heap.size (.slice A n cap) r.1 ∧ Below w.heap.size w w'
set_option maxRecDepth 100000 in
set_option maxHeartbeats 4000000 in
theorem implSplit (s : ByteArray) (w : World) (hs : s.size ≤ 9223372036854775807) (htab : Lib.TabIs Tryd.prog w "strings.asciiSpace" .u8 Lib.asciiSpaceTab) : Calls Tryd.prog 11 #[.string s] w (Split w (Pl.splitFields s.data.toList)) := by
  have HT := Lib.hid htab
  clear htab
  have hl := size_list s
  obtain ⟨l, hll⟩ : ∃ l, l = s.data.toList := ⟨_, rfl⟩
  rw [← hll] at hl ⊢
  obtain ⟨n, hn⟩ : ∃ n, s.size = n := ⟨_, rfl⟩
  rw [hn] at hs hl
  have HLL := Lib.hid hll
  have HL := Lib.hid hl
  clear hll hl
  obtain ⟨rt, hrt⟩ : ∃ rt, Pl.splitFields l = rt := ⟨_, rfl⟩
  rw [hrt]
  have HR := Lib.hid hrt
  clear hrt
  by_cases hbig : 600 < n
  · skip
    obtain rfl : rt = ([], false) := by rw [← HR.out]; exact Pl.split_long (by rw [HL.out]; exact hbig)
    have hb : (600 : Int) < n := by omega
    go_enter Tryd.func11, Tryd.ntmps11
    go_wp2_with fail
    go_ret2
    exact ⟨none, 0, 0, rfl, rfl, Strs.nil _ _ _ (Nat.le_refl _), Below.refl _ _⟩
  have hb : ¬ (600 : Int) < n := by omega
  go_enter Tryd.func11, Tryd.ntmps11
  go_wp2_with fail
  go_loopw [11] (fun i wr => ∃ (k : Nat), k ≤ n ∧ i = .int .i64 k ∧ Hid ((l.take k).all Pl.okb = true) ∧ Hid (Below w.heap.size w wr)) (fun i _ => n - (intOf i).toNat)
  case atStart => exact ⟨0, by omega, rfl, Lib.hid rfl, Lib.hid (Below.refl _ _)⟩
  case round =>
    obtain ⟨k, hk, rfl, HA, HB⟩ := hrel
    have kp0 : (0 : Int) ≤ (k : Int) := Int.natCast_nonneg _
    by_cases hlt : k < n
    · have kp1 : (k : Int) < n := by omega
      obtain ⟨b, e1, e2⟩ := byte_at (s := s) (k := k) (by omega)
      rw [← HLL.out] at e1
      have E1 := Lib.hid e1
      clear e1
      obtain ⟨y, hy⟩ : ∃ y, b.toNat = y := ⟨_, rfl⟩
      have y9 : y < 256 := by rw [← hy]; exact UInt8.toNat_lt _
      have HY := Lib.hid hy
      by_cases c1 : y < 32
      case pos =>
        have c1i : (y : Int) < 32 := by omega
        obtain rfl : rt = ([], false) := by rw [← HR.out]; exact Pl.split_bad E1.out (by unfold Pl.okb; rw [HY.out]; simp; omega)
        go_wp2_with fail
        go_ret2
        exact ⟨none, 0, 0, rfl, rfl, Strs.nil _ _ _ (Nat.le_refl _), HB.out⟩
      have c1i : ¬ (y : Int) < 32 := by omega
      by_cases c2 : 126 < y
      case pos =>
        have c2i : (126 : Int) < y := by omega
        obtain rfl : rt = ([], false) := by rw [← HR.out]; exact Pl.split_bad E1.out (by unfold Pl.okb; rw [HY.out]; simp; omega)
        go_wp2_with fail
        go_ret2
        exact ⟨none, 0, 0, rfl, rfl, Strs.nil _ _ _ (Nat.le_refl _), HB.out⟩
      have c2i : ¬ (126 : Int) < y := by omega
      have HA2 := Lib.hid (Pl.all_take_snoc E1.out (show Pl.okb b = true by unfold Pl.okb; rw [HY.out]; simp; omega) HA.out)
      go_wp2_with fail
      go_roundw
      case rel => exact ⟨k + 1, by omega, by go_num, HA2, HB⟩
      case measure => simp [intOf]; omega
    · obtain rfl : k = n := by omega
      have hal := HA.out
      rw [List.take_of_length_le (by rw [HL.out]; exact Nat.le_refl _)] at hal
      have HAL := Lib.hid hal
      clear hal
      have HAS : Hid (∀ (j : Nat) b, s.data.toList[j]? = some b → b.toNat < 128) := Lib.hid (fun j b hb => by rw [← HLL.out] at hb; have := List.all_eq_true.1 HAL.out b (List.mem_of_getElem? hb); simp [Pl.okb] at this; omega)
      obtain ⟨F, hF⟩ : ∃ F, Lib.fields l = F := ⟨_, rfl⟩
      obtain ⟨m, hm⟩ : ∃ m, F.length = m := ⟨_, rfl⟩
      have hmn : m ≤ 601 := by rw [← hm, ← hF]; have := Pl.width_fields l; have := Pl.length_width (Lib.fields l); have := HL.out; omega
      have HF := Lib.hid hF
      have HM := Lib.hid hm
      clear hF hm
      go_wp2_with fail
      refine (Tryd.strings_Fields s _ (by omega) HAS.out (space_below HT.out HB.out)).mono ?_
      rintro e w1 ⟨he, hw⟩
      rw [← HLL.out, HF.out, HM.out] at he
      rw [← HLL.out, HF.out] at hw
      subst he
      have S1 : Hid (Strs w1 w.heap.size w1.heap.size (.slice (some ⟨wr.heap.size, 0, none⟩) m m) F) := Lib.hid (by have := Strs.lit wr F (by rw [HM.out]; omega); rw [HM.out] at this; rw [hw]; exact Own.mono this HB.out.size (by simp) (Nat.le_refl _))
      have B1 : Hid (Below w.heap.size w w1) := Lib.hid (by rw [hw]; exact HB.out.alloc HB.out.size _)
      clear hw
      by_cases c3 : 24 < m
      case pos =>
        have c3i : (24 : Int) < m := by omega
        obtain rfl : rt = ([], false) := by rw [← HR.out]; exact Pl.split_many (by rw [HF.out, HM.out]; exact c3)
        go_wp2_with fail
        go_ret2
        exact ⟨none, 0, 0, rfl, rfl, Strs.nil _ _ _ (Nat.le_refl _), B1.out⟩
      have c3i : ¬ (24 : Int) < m := by omega
      obtain rfl : rt = (F, true) := by rw [← HR.out, ← HF.out]; exact Pl.split_good (by rw [HL.out]; omega) HAL.out (by rw [HF.out, HM.out]; omega)
      go_wp2_with fail
      go_ret2
      exact ⟨_, _, _, rfl, HM.out, S1.out, B1.out⟩
set_option maxRecDepth 100000 in
set_option maxHeartbeats 4000000 in
theorem specSplit (s : ByteArray) (w : World) (hs : s.size ≤ 9223372036854775807) : Calls Tryd.prog 12 #[.string s] w (Split w (Pl.splitFields s.data.toList)) := by
  have hl := size_list s
  obtain ⟨l, hll⟩ : ∃ l, l = s.data.toList := ⟨_, rfl⟩
  rw [← hll] at hl ⊢
  obtain ⟨n, hn⟩ : ∃ n, s.size = n := ⟨_, rfl⟩
  rw [hn] at hs hl
  have HLL := Lib.hid hll
  have HL := Lib.hid hl
  clear hll hl
  obtain ⟨rt, hrt⟩ : ∃ rt, Pl.splitFields l = rt := ⟨_, rfl⟩
  rw [hrt]
  have HR := Lib.hid hrt
  clear hrt
  obtain ⟨i0, hi0, hz0, hz1, hz2⟩ := info_parts Tryd.infoText
  by_cases hbig : 600 < n
  · skip
    obtain rfl : rt = ([], false) := by rw [← HR.out]; exact Pl.split_long (by rw [HL.out]; exact hbig)
    have hb : (600 : Int) < n := by omega
    go_enter Tryd.func12, Tryd.ntmps12
    go_wp2_with fail
    go_ret2
    exact ⟨_, _, _, rfl, rfl, Strs.of_row (L := []) (World.ownsRow_lit (base := w.heap.size) (e := 9) (size := 1) w #[] 0 (by first | exact Nat.le_refl _ | exact HB.out.size) (by unfold maxLen; omega) (by simp)) rfl rfl, (Below.refl _ _).alloc (Nat.le_refl _) _⟩
  have hb : ¬ (600 : Int) < n := by omega
  go_enter Tryd.func12, Tryd.ntmps12
  go_wp2_with fail
  go_loopw [6, 5, 4] (fun i bv v wr => ∃ (k b g cap m : Nat) (D : List (List UInt8)), k ≤ n + 1 ∧ b ≤ k ∧ m ≤ 601 ∧ i = .int .i64 k ∧ bv = .int .i64 b ∧ v = .slice (some ⟨g, 0, none⟩) m cap ∧ Hid (D.length = m) ∧ Hid (Pl.Fld l k b D) ∧ Hid ((l.take k).all Pl.okb = true) ∧ Hid (wr.ownsRow w.heap.size 9 1 v m (scells D)) ∧ Hid (Below w.heap.size w wr)) (fun i _ _ _ => n + 1 - (intOf i).toNat)
  case atStart => exact ⟨0, 0, w.heap.size, 0, 0, [], by omega, by omega, by omega, rfl, rfl, rfl, Lib.hid rfl, Lib.hid (Pl.Fld.zero _), Lib.hid rfl, Lib.hid (World.ownsRow_lit (base := w.heap.size) (e := 9) (size := 1) w #[] 0 (Nat.le_refl _) (by unfold maxLen; omega) (by simp)), Lib.hid ((Below.refl _ _).alloc (Nat.le_refl _) _)⟩
  case round =>
    obtain ⟨k, b, g, cap, m, D, hk, hbk, hm, rfl, rfl, rfl, HD, HF, HA, HO, HB⟩ := hrel
    have kp0 : (0 : Int) ≤ (k : Int) := Int.natCast_nonneg _
    have bp0 : (0 : Int) ≤ (b : Int) := Int.natCast_nonneg _
    have bk0 : (b : Int) ≤ (k : Int) := by omega
    by_cases hlt : k < n
    · have kp1 : (k : Int) < n := by omega
      have kp2 : (k : Int) ≤ n := by omega
      obtain ⟨c, e1, e2⟩ := byte_at (s := s) (k := k) (by omega)
      rw [← HLL.out] at e1
      have E1 := Lib.hid e1
      clear e1
      obtain ⟨y, hy⟩ : ∃ y, c.toNat = y := ⟨_, rfl⟩
      have y9 : y < 256 := by rw [← hy]; exact UInt8.toNat_lt _
      have HY := Lib.hid hy
      by_cases c1 : y < 32
      case pos =>
        have c1i : (y : Int) < 32 := by omega
        obtain rfl : rt = ([], false) := by rw [← HR.out]; exact Pl.split_bad E1.out (by unfold Pl.okb; rw [HY.out]; simp; omega)
        go_wp2_with fail
        go_ret2
        exact ⟨_, _, _, rfl, rfl, Strs.of_row (L := []) (World.ownsRow_lit (base := w.heap.size) (e := 9) (size := 1) wr #[] 0 (by first | exact Nat.le_refl _ | exact HB.out.size) (by unfold maxLen; omega) (by simp)) rfl rfl, HB.out.alloc HB.out.size _⟩
      have c1i : ¬ (y : Int) < 32 := by omega
      by_cases c2 : 126 < y
      case pos =>
        have c2i : (126 : Int) < y := by omega
        obtain rfl : rt = ([], false) := by rw [← HR.out]; exact Pl.split_bad E1.out (by unfold Pl.okb; rw [HY.out]; simp; omega)
        go_wp2_with fail
        go_ret2
        exact ⟨_, _, _, rfl, rfl, Strs.of_row (L := []) (World.ownsRow_lit (base := w.heap.size) (e := 9) (size := 1) wr #[] 0 (by first | exact Nat.le_refl _ | exact HB.out.size) (by unfold maxLen; omega) (by simp)) rfl rfl, HB.out.alloc HB.out.size _⟩
      have c2i : ¬ (126 : Int) < y := by omega
      have HA2 := Lib.hid (Pl.all_take_snoc E1.out (show Pl.okb c = true by unfold Pl.okb; rw [HY.out]; simp; omega) HA.out)
      by_cases c3 : y = 32
      case neg =>
        have c3i : ((y : Int) == 32) = false := by simp; omega
        have c3j : ¬ (y : Int) = 32 := by omega
        have HF2 := Lib.hid (HF.out.more E1.out (Pl.isSp_no HY.out (by omega) c3))
        go_wp2_with fail
        go_roundw
        case rel => exact ⟨k + 1, b, g, cap, m, D, by omega, by omega, hm, by go_num, rfl, rfl, HD, HF2, HA2, HO, HB⟩
        case measure => simp [intOf]; omega
      subst c3
      have HSP := Lib.hid (Pl.isSp_yes HY.out)
      by_cases hbl : b < k
      case pos =>
        have hbi : (b : Int) < k := by omega
        have hks : (k : Int) ≤ (s.size : Int) := by omega
        have hks2 : k ≤ s.size := by omega
        obtain ⟨p, hp⟩ : ∃ p, (l.drop b).take (k - b) = p := ⟨_, rfl⟩
        have hsub := piece_of (s := s) (b := b) (k := k) HLL.out.symm
        rw [hp] at hsub
        have hf := HF.out.cut E1.out HSP.out hbl
        rw [hp] at hf
        have HF2 := Lib.hid hf
        clear hf hp
        have hm2 : m + 1 ≤ 601 := by have := HF2.out.count; simp at this; have := HD.out; have := HL.out; omega
        go_wp2_with (refine wpList_append_lies _ rfl _ _ 25 rfl w.heap.size 9 i0 (.string ⟨#[]⟩) 1 16 Tryd.underlying25 hi0 hz0 hz1 hz2 rfl (by decide) (.slice (some ⟨g, 0, none⟩) m cap) m _ rfl (World.ownsRow.alloc HO.out _) ⟨wr.heap.size, 0, none⟩ 1 1 (scells [p]) rfl rfl (World.news_of_block (cs := #[.string ⟨p.toArray⟩]) (t := 9) (fr := (0, 0)) (heap_alloc_new wr _)) (scells_one _) (by omega) (by unfold maxLen; omega) (by omega) (by have := HB.out.size; simp; omega) (wr.heap.size + 1) (by simp) ?_; intro gg cap2 w2 hown2 hgrow2 hat2 hlt2; have B2 := Lib.hid ((HB.out.alloc HB.out.size _).trans (grown_keep (World.ownsRow.alloc HO.out _) hgrow2 (by have := HB.out.size; simp; omega))); have X2 := Lib.hid hown2; clear hown2 hgrow2 hat2)
        go_roundw
        case rel => exact ⟨k + 1, k + 1, gg, cap2, m + 1, D ++ [p], by omega, by omega, hm2, by go_num, by go_num, rfl, Lib.hid (by rw [List.length_append, HD.out]; rfl), HF2, HA2, Lib.hid (by rw [scells_append]; exact X2.out), B2⟩
        case measure => simp [intOf] <;> omega
      case neg =>
        have hbi : ¬ (b : Int) < k := by omega
        have HF2 := Lib.hid (HF.out.skip E1.out HSP.out hbl)
        go_wp2_with fail
        go_roundw
        case rel => exact ⟨k + 1, k + 1, g, cap, m, D, by omega, by omega, hm, by go_num, by go_num, rfl, HD, HF2, HA2, HO, HB⟩
        case measure => simp [intOf] <;> omega
    have kp1 : ¬ (k : Int) < n := by omega
    by_cases heq : k = n
    case pos =>
      subst heq
      have kp2 : (k : Int) ≤ (k : Int) := by omega
      have HA2 : Hid ((l.take (k + 1)).all Pl.okb = true) := Lib.hid (by have := HA.out; rw [List.take_of_length_le (by rw [HL.out]; exact Nat.le_refl _)] at this; rw [List.take_of_length_le (by rw [HL.out]; omega)]; exact this)
      have HF' : Hid (∀ (b : Nat) (D : List (List UInt8)), Pl.Fld l k b D → (b < k → Pl.Fld l (k + 1) (k + 1) (D ++ [(l.drop b).take (k - b)])) ∧ (¬ b < k → Pl.Fld l (k + 1) (k + 1) D)) := Lib.hid (fun b D h => by rw [← HL.out] at h ⊢; exact ⟨fun hb => h.cutEnd hb, fun hb => h.skipEnd hb⟩)
      have HFx := HF
      clear HF
      have HF : Hid ((b < k → Pl.Fld l (k + 1) (k + 1) (D ++ [(l.drop b).take (k - b)])) ∧ (¬ b < k → Pl.Fld l (k + 1) (k + 1) D)) := Lib.hid (HF'.out _ _ HFx.out)
      clear HF'
      by_cases hbl : b < k
      case pos =>
        have hbi : (b : Int) < k := by omega
        have hks : (k : Int) ≤ (s.size : Int) := by omega
        have hks2 : k ≤ s.size := by omega
        obtain ⟨p, hp⟩ : ∃ p, (l.drop b).take (k - b) = p := ⟨_, rfl⟩
        have hsub := piece_of (s := s) (b := b) (k := k) HLL.out.symm
        rw [hp] at hsub
        have hf := HF.out.1 hbl
        rw [hp] at hf
        have HF2 := Lib.hid hf
        clear hf hp
        have hm2 : m + 1 ≤ 601 := by have := HF2.out.count; simp at this; have := HD.out; have := HL.out; omega
        go_wp2_with (refine wpList_append_lies _ rfl _ _ 25 rfl w.heap.size 9 i0 (.string ⟨#[]⟩) 1 16 Tryd.underlying25 hi0 hz0 hz1 hz2 rfl (by decide) (.slice (some ⟨g, 0, none⟩) m cap) m _ rfl (World.ownsRow.alloc HO.out _) ⟨wr.heap.size, 0, none⟩ 1 1 (scells [p]) rfl rfl (World.news_of_block (cs := #[.string ⟨p.toArray⟩]) (t := 9) (fr := (0, 0)) (heap_alloc_new wr _)) (scells_one _) (by omega) (by unfold maxLen; omega) (by omega) (by have := HB.out.size; simp; omega) (wr.heap.size + 1) (by simp) ?_; intro gg cap2 w2 hown2 hgrow2 hat2 hlt2; have B2 := Lib.hid ((HB.out.alloc HB.out.size _).trans (grown_keep (World.ownsRow.alloc HO.out _) hgrow2 (by have := HB.out.size; simp; omega))); have X2 := Lib.hid hown2; clear hown2 hgrow2 hat2)
        go_roundw
        case rel => exact ⟨k + 1, k + 1, gg, cap2, m + 1, D ++ [p], by omega, by omega, hm2, by go_num, by go_num, rfl, Lib.hid (by rw [List.length_append, HD.out]; rfl), HF2, HA2, Lib.hid (by rw [scells_append]; exact X2.out), B2⟩
        case measure => simp [intOf] <;> omega
      case neg =>
        have hbi : ¬ (b : Int) < k := by omega
        have HF2 := Lib.hid (HF.out.2 hbl)
        go_wp2_with fail
        go_roundw
        case rel => exact ⟨k + 1, k + 1, g, cap, m, D, by omega, by omega, hm, by go_num, by go_num, rfl, HD, HF2, HA2, HO, HB⟩
        case measure => simp [intOf] <;> omega
    have hk1 : k = n + 1 := by omega
    have kp2 : ¬ (k : Int) ≤ n := by omega
    have hFD := HF.out.done (by rw [HL.out]; omega)
    subst hFD
    have hal := HA.out
    rw [List.take_of_length_le (by rw [HL.out]; omega)] at hal
    have HAL := Lib.hid hal
    clear hal
    by_cases c3 : 24 < m
    case pos =>
      have c3i : (24 : Int) < m := by omega
      obtain rfl : rt = ([], false) := by rw [← HR.out]; exact Pl.split_many (by rw [HD.out]; exact c3)
      go_wp2_with fail
      go_ret2
      exact ⟨_, _, _, rfl, rfl, Strs.of_row (L := []) (World.ownsRow_lit (base := w.heap.size) (e := 9) (size := 1) wr #[] 0 (by first | exact Nat.le_refl _ | exact HB.out.size) (by unfold maxLen; omega) (by simp)) rfl rfl, HB.out.alloc HB.out.size _⟩
    have c3i : ¬ (24 : Int) < m := by omega
    obtain rfl : rt = (Lib.fields l, true) := by rw [← HR.out]; exact Pl.split_good (by rw [HL.out]; omega) HAL.out (by rw [HD.out]; omega)
    go_wp2_with fail
    go_ret2
    exact ⟨_, _, _, rfl, HD.out, Strs.of_row HO.out HD.out rfl, HB.out⟩
end Go.Proofs.YtepjjlaipindnaaDoor
