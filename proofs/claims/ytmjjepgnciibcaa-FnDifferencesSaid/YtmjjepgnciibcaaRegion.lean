/- Contract: the region of a grid. -/
import Derived.Test.YtmjjepgnciibcaaRAcc
import Derived.Deep.QuietTactic
import Derived.BigQuiet
import Derived.Deep.CutBlock
namespace Go.Proofs.Ytmjjepgnciibcaa
open Go.RowKit
set_option linter.unusedVariables false
set_option linter.unusedSimpArgs false
theorem bit_test {n z : Nat} (hn : n < 65536) (hz : z < 16) : (bits .and .i64 (n : Int) (IntKind.i64.wrap (2 ^ z)) != 0) = n.testBit z := by
  have h1 : 2 ^ z ≤ 65536 := Nat.pow_le_pow_right (n := 2) (by decide) (by omega : z ≤ 16)
  have e0 : ((2 : Int) ^ z) = ((2 ^ z : Nat) : Int) := by simp
  have h0 : IntKind.i64.wrap ((2 : Int) ^ z) = ((2 ^ z : Nat) : Int) := by rw [e0]; generalize 2 ^ z = p at *; rw [IntKind.wrap_i64]; omega
  rw [h0, i64_and (by omega) (by omega)]
  cases ht : n.testBit z
  · rw [(Pl.and_pow n z).2 ht]; rfl
  · have : n &&& 2 ^ z ≠ 0 := fun h => by rw [(Pl.and_pow n z).1 h] at ht; cases ht
    simp only [bne_iff_ne, ne_eq]
    omega
attribute [local irreducible] gcells
set_option maxRecDepth 100000 in
set_option maxHeartbeats 4000000 in
theorem region_any (m : Nat → Nat) (G : Nat → Nat → Bool) (hm : Pl.Holds m G) (w : World) : Calls Try.prog 33 #[.agg (gcells m)] w (NewReg (Pl.canon G) w) := by
  have HM := Lib.hid hm
  clear hm
  obtain ⟨i0, hi0, hz0', hz1, hz2⟩ := info_parts Try.infoRect
  go_enter Try.func33, Try.ntmps33
  go_wp2_with fail
  go_loopw [4] (fun sy wr => ∃ (y : Nat) (d : List Pl.R) (v : Value), y ≤ 16 ∧ sy = .int .i64 y ∧ Hid (Pl.canonFrom G 0 = d ++ Pl.canonFrom G y) ∧ Hid (GB wr w.heap.size m) ∧ Hid (VB wr (w.heap.size + 1) [.slice none 0 0]) ∧ Hid (RAcc wr (w.heap.size + 3) (w.heap.size + 1 + 1) d v) ∧ Hid (Below w.heap.size w wr)) (fun sy _ => 16 - (intOf sy).toNat)
  case atStart =>
    refine ⟨0, [], .slice none 0 0, by omega, rfl, Lib.hid rfl, Lib.hid (((GB.new rfl).alloc _).alloc _), Lib.hid (VB.alloc (VB.new (cs := [.slice none 0 0]) (by simp)) _), Lib.hid ⟨VB.new (cs := [.slice none 0 0]) (by simp), World.ownsRow_nil _ _ _ _, by omega, by simp⟩, Lib.hid (by go_grown)⟩
  case round =>
    obtain ⟨wo, rfl⟩ : ∃ wo : World, wo = wr := ⟨_, rfl⟩
    obtain ⟨y, d, v, hy, rfl, hd, hG, hR, hA, hB⟩ := hrel
    by_cases hlt : y < 16
    · have yp0 : (0 : Int) ≤ (y : Int) := Int.natCast_nonneg _
      have yp1 : (y : Int) < 16 := by omega
      go_upto_block 2 with fail
      go_cut [5] from 13 to 25 (fun se wx => ∃ e : Nat, y + 1 ≤ e ∧ e ≤ 16 ∧ se = .int .i64 e ∧ Hid (Pl.band G y 1 = e - y) ∧ Hid (Below wo.heap.size wo wx))
      case first =>
        go_wp2_with fail
        go_loopw [5] (fun se wr => ∃ e : Nat, y + 1 ≤ e ∧ e ≤ 16 ∧ se = .int .i64 e ∧ Hid (Pl.band G y 1 = Pl.band G y (e - y)) ∧ Hid (Below wo.heap.size wo wr)) (fun se _ => 16 - (intOf se).toNat)
        case atStart => exact ⟨y + 1, Nat.le_refl _, by omega, by go_num, Lib.hid (by rw [show y + 1 - y = 1 by omega]), Lib.hid (Below.refl _ _)⟩
        case round =>
          obtain ⟨e, he0, he, rfl, hb, hBo⟩ := hrel
          have hGe := Lib.hid (hG.out.below hBo.out hG.out.lt)
          have lt0 := hGe.out.lt
          have cy := hGe.out.cell hlt
          have ep0 : (0 : Int) ≤ (e : Int) := Int.natCast_nonneg _
          by_cases hel : e < 16
          · have ep1 : (e : Int) < 16 := by omega
            have ce := hGe.out.cell hel
            by_cases hme : m e = m y
            · have hd1 : ((m e : Int) == (m y : Int)) = true := by simp [hme]
              go_wp2_with fail
              refine regionL (S := (fun w' => w'.cell? ⟨w.heap.size, e, none⟩ = some (.int .i64 (m e)) ∧ w'.cell? ⟨w.heap.size, y, none⟩ = some (.int .i64 (m y)))) (L := 11) (by kernel_rfl) ?_ (fun hHeld => ?_)
              · (((try dsimp only); (repeat' apply And.intro) <;> (first | (simp only [World.cell?_drew, *]; done) | (simp (disch := (first | omega | (simp; omega))) only [cell_far, cell_old, World.cell?_drew, *]; done))))
              refine takeL (i := 0) (oi := ?_) (v := ?_) ?_ (by kernel_rfl) (by kernel_rfl) (by kernel_rfl) (by kernel_rfl) ?_ (Or.inl ⟨?_, ?_⟩) (by assumption) ?_
              rotate_left 2
              · (simp only [List.getElem?_toArray, List.getElem?_cons_succ, List.getElem?_cons_zero]; rfl)
              · exact fun _ _ _ h => h
              · rfl
              · (intro w hSw; (try dsimp only at hSw); go_simp; (try with_reducible rfl))
              try simp only [Act.put, List.setIfInBounds_toArray, List.set_cons_zero, List.set_cons_succ]
              refine takeL (i := 1) (oi := ?_) (v := ?_) ?_ (by kernel_rfl) (by kernel_rfl) (by kernel_rfl) (by kernel_rfl) ?_ (Or.inl ⟨?_, ?_⟩) (by assumption) ?_
              rotate_left 2
              · (simp only [List.getElem?_toArray, List.getElem?_cons_succ, List.getElem?_cons_zero]; rfl)
              · exact fun _ _ _ h => h
              · rfl
              · (intro w hSw; (try dsimp only at hSw); go_simp; (try with_reducible rfl))
              try simp only [Act.put, List.setIfInBounds_toArray, List.set_cons_zero, List.set_cons_succ]
              refine takeL (i := 2) (oi := ?_) (v := ?_) ?_ (by kernel_rfl) (by kernel_rfl) (by kernel_rfl) (by kernel_rfl) ?_ (Or.inl ⟨?_, ?_⟩) (by assumption) ?_
              rotate_left 2
              · (simp only [List.getElem?_toArray, List.getElem?_cons_succ, List.getElem?_cons_zero]; rfl)
              · exact fun _ _ _ h => h
              · rfl
              · (intro w hSw; (try dsimp only at hSw); go_simp; (try with_reducible rfl))
              try simp only [Act.put, List.setIfInBounds_toArray, List.set_cons_zero, List.set_cons_succ]
              refine takeL (i := 3) (oi := ?_) (v := ?_) ?_ (by kernel_rfl) (by kernel_rfl) (by kernel_rfl) (by kernel_rfl) ?_ (Or.inl ⟨?_, ?_⟩) (by assumption) ?_
              rotate_left 2
              · (simp only [List.getElem?_toArray, List.getElem?_cons_succ, List.getElem?_cons_zero]; rfl)
              · exact fun _ _ _ h => h
              · rfl
              · (intro w hSw; (try dsimp only at hSw); go_simp; (try with_reducible rfl))
              try simp only [Act.put, List.setIfInBounds_toArray, List.set_cons_zero, List.set_cons_succ]
              refine takeL (i := 4) (oi := ?_) (v := ?_) ?_ (by kernel_rfl) (by kernel_rfl) (by kernel_rfl) (by kernel_rfl) ?_ (Or.inl ⟨?_, ?_⟩) (by assumption) ?_
              rotate_left 2
              · (simp only [List.getElem?_toArray, List.getElem?_cons_succ, List.getElem?_cons_zero]; rfl)
              · exact fun _ _ _ h => h
              · rfl
              · (intro w hSw; (try dsimp only at hSw); go_simp; (try with_reducible rfl))
              try simp only [Act.put, List.setIfInBounds_toArray, List.set_cons_zero, List.set_cons_succ]
              refine takeL (i := 5) (oi := ?_) (v := ?_) ?_ (by kernel_rfl) (by kernel_rfl) (by kernel_rfl) (by kernel_rfl) ?_ (Or.inl ⟨?_, ?_⟩) (by assumption) ?_
              rotate_left 2
              · (simp only [List.getElem?_toArray, List.getElem?_cons_succ, List.getElem?_cons_zero]; rfl)
              · exact fun _ _ _ h => h
              · rfl
              · (intro w hSw; (try dsimp only at hSw); go_simp; (try with_reducible rfl))
              try simp only [Act.put, List.setIfInBounds_toArray, List.set_cons_zero, List.set_cons_succ]
              refine takeL (i := 6) (oi := ?_) (v := ?_) ?_ (by kernel_rfl) (by kernel_rfl) (by kernel_rfl) (by kernel_rfl) ?_ (Or.inl ⟨?_, ?_⟩) (by assumption) ?_
              rotate_left 2
              · (simp only [List.getElem?_toArray, List.getElem?_cons_succ, List.getElem?_cons_zero]; rfl)
              · exact fun _ _ _ h => h
              · rfl
              · (intro w hSw; (try dsimp only at hSw); go_simp; (try with_reducible rfl))
              try simp only [Act.put, List.setIfInBounds_toArray, List.set_cons_zero, List.set_cons_succ]
              refine takeL (i := 7) (oi := ?_) (v := ?_) ?_ (by kernel_rfl) (by kernel_rfl) (by kernel_rfl) (by kernel_rfl) ?_ (Or.inl ⟨?_, ?_⟩) (by assumption) ?_
              rotate_left 2
              · (simp only [List.getElem?_toArray, List.getElem?_cons_succ, List.getElem?_cons_zero]; rfl)
              · exact fun _ _ _ h => h
              · rfl
              · (intro w hSw; (try dsimp only at hSw); go_simp; (try with_reducible rfl))
              try simp only [Act.put, List.setIfInBounds_toArray, List.set_cons_zero, List.set_cons_succ]
              refine takeL (i := 8) (oi := ?_) (v := ?_) ?_ (by kernel_rfl) (by kernel_rfl) (by kernel_rfl) (by kernel_rfl) ?_ (Or.inl ⟨?_, ?_⟩) (by assumption) ?_
              rotate_left 2
              · (simp only [List.getElem?_toArray, List.getElem?_cons_succ, List.getElem?_cons_zero]; rfl)
              · exact fun _ _ _ h => h
              · rfl
              · (intro w hSw; (try dsimp only at hSw); go_simp; (try with_reducible rfl))
              try simp only [Act.put, List.setIfInBounds_toArray, List.set_cons_zero, List.set_cons_succ]
              refine takeL (i := 9) (oi := ?_) (v := ?_) ?_ (by kernel_rfl) (by kernel_rfl) (by kernel_rfl) (by kernel_rfl) ?_ (Or.inl ⟨?_, ?_⟩) (by assumption) ?_
              rotate_left 2
              · (simp only [List.getElem?_toArray, List.getElem?_cons_succ, List.getElem?_cons_zero]; rfl)
              · exact fun _ _ _ h => h
              · rfl
              · (intro w hSw; (try dsimp only at hSw); go_simp; (try with_reducible rfl))
              try simp only [Act.put, List.setIfInBounds_toArray, List.set_cons_zero, List.set_cons_succ]
              refine takeL (i := 10) (oi := ?_) (v := ?_) ?_ (by kernel_rfl) (by kernel_rfl) (by kernel_rfl) (by kernel_rfl) ?_ (Or.inl ⟨?_, ?_⟩) (by assumption) ?_
              rotate_left 2
              · (simp only [List.getElem?_toArray, List.getElem?_cons_succ, List.getElem?_cons_zero]; rfl)
              · exact fun _ _ _ h => h
              · rfl
              · (intro w hSw; (try dsimp only at hSw); go_simp; (try with_reducible rfl))
              try simp only [Act.put, List.setIfInBounds_toArray, List.set_cons_zero, List.set_cons_succ]
              refine doneL (by kernel_rfl) ?_ _
              go_wp2_with fail
              go_roundw
              case rel =>
                refine ⟨e + 1, by omega, by omega, by go_num, Lib.hid ?_, Lib.hid (Below.drew hBo.out)⟩
                rw [hb.out, show e + 1 - y = e - y + 1 by omega]
                refine Pl.band_step (by omega) ?_
                rw [show y + (e - y) = e by omega, HM.out.row hlt hel]
                simp [hme]
              case measure => simp [intOf]; omega
            · have hd1 : ((m e : Int) == (m y : Int)) = false := by simp; omega
              have hend : Hid (Pl.band G y 1 = e - y) := Lib.hid (by
                rw [hb.out]
                refine Pl.band_end fun h => hme ?_
                rw [show y + (e - y) = e by omega, HM.out.row hlt hel] at h
                simpa [eq_comm] using h.2)
              go_wp2_with fail
              refine regionL (S := (fun w' => w'.cell? ⟨w.heap.size, e, none⟩ = some (.int .i64 (m e)) ∧ w'.cell? ⟨w.heap.size, y, none⟩ = some (.int .i64 (m y)))) (L := 11) (by kernel_rfl) ?_ (fun hHeld => ?_)
              · (((try dsimp only); (repeat' apply And.intro) <;> (first | (simp only [World.cell?_drew, *]; done) | (simp (disch := (first | omega | (simp; omega))) only [cell_far, cell_old, World.cell?_drew, *]; done))))
              refine takeL (i := 0) (oi := ?_) (v := ?_) ?_ (by kernel_rfl) (by kernel_rfl) (by kernel_rfl) (by kernel_rfl) ?_ (Or.inl ⟨?_, ?_⟩) (by assumption) ?_
              rotate_left 2
              · (simp only [List.getElem?_toArray, List.getElem?_cons_succ, List.getElem?_cons_zero]; rfl)
              · exact fun _ _ _ h => h
              · rfl
              · (intro w hSw; (try dsimp only at hSw); go_simp; (try with_reducible rfl))
              try simp only [Act.put, List.setIfInBounds_toArray, List.set_cons_zero, List.set_cons_succ]
              refine takeL (i := 1) (oi := ?_) (v := ?_) ?_ (by kernel_rfl) (by kernel_rfl) (by kernel_rfl) (by kernel_rfl) ?_ (Or.inl ⟨?_, ?_⟩) (by assumption) ?_
              rotate_left 2
              · (simp only [List.getElem?_toArray, List.getElem?_cons_succ, List.getElem?_cons_zero]; rfl)
              · exact fun _ _ _ h => h
              · rfl
              · (intro w hSw; (try dsimp only at hSw); go_simp; (try with_reducible rfl))
              try simp only [Act.put, List.setIfInBounds_toArray, List.set_cons_zero, List.set_cons_succ]
              refine takeL (i := 2) (oi := ?_) (v := ?_) ?_ (by kernel_rfl) (by kernel_rfl) (by kernel_rfl) (by kernel_rfl) ?_ (Or.inl ⟨?_, ?_⟩) (by assumption) ?_
              rotate_left 2
              · (simp only [List.getElem?_toArray, List.getElem?_cons_succ, List.getElem?_cons_zero]; rfl)
              · exact fun _ _ _ h => h
              · rfl
              · (intro w hSw; (try dsimp only at hSw); go_simp; (try with_reducible rfl))
              try simp only [Act.put, List.setIfInBounds_toArray, List.set_cons_zero, List.set_cons_succ]
              refine takeL (i := 3) (oi := ?_) (v := ?_) ?_ (by kernel_rfl) (by kernel_rfl) (by kernel_rfl) (by kernel_rfl) ?_ (Or.inl ⟨?_, ?_⟩) (by assumption) ?_
              rotate_left 2
              · (simp only [List.getElem?_toArray, List.getElem?_cons_succ, List.getElem?_cons_zero]; rfl)
              · exact fun _ _ _ h => h
              · rfl
              · (intro w hSw; (try dsimp only at hSw); go_simp; (try with_reducible rfl))
              try simp only [Act.put, List.setIfInBounds_toArray, List.set_cons_zero, List.set_cons_succ]
              refine takeL (i := 4) (oi := ?_) (v := ?_) ?_ (by kernel_rfl) (by kernel_rfl) (by kernel_rfl) (by kernel_rfl) ?_ (Or.inl ⟨?_, ?_⟩) (by assumption) ?_
              rotate_left 2
              · (simp only [List.getElem?_toArray, List.getElem?_cons_succ, List.getElem?_cons_zero]; rfl)
              · exact fun _ _ _ h => h
              · rfl
              · (intro w hSw; (try dsimp only at hSw); go_simp; (try with_reducible rfl))
              try simp only [Act.put, List.setIfInBounds_toArray, List.set_cons_zero, List.set_cons_succ]
              refine takeL (i := 5) (oi := ?_) (v := ?_) ?_ (by kernel_rfl) (by kernel_rfl) (by kernel_rfl) (by kernel_rfl) ?_ (Or.inl ⟨?_, ?_⟩) (by assumption) ?_
              rotate_left 2
              · (simp only [List.getElem?_toArray, List.getElem?_cons_succ, List.getElem?_cons_zero]; rfl)
              · exact fun _ _ _ h => h
              · rfl
              · (intro w hSw; (try dsimp only at hSw); go_simp; (try with_reducible rfl))
              try simp only [Act.put, List.setIfInBounds_toArray, List.set_cons_zero, List.set_cons_succ]
              refine takeL (i := 6) (oi := ?_) (v := ?_) ?_ (by kernel_rfl) (by kernel_rfl) (by kernel_rfl) (by kernel_rfl) ?_ (Or.inl ⟨?_, ?_⟩) (by assumption) ?_
              rotate_left 2
              · (simp only [List.getElem?_toArray, List.getElem?_cons_succ, List.getElem?_cons_zero]; rfl)
              · exact fun _ _ _ h => h
              · rfl
              · (intro w hSw; (try dsimp only at hSw); go_simp; (try with_reducible rfl))
              try simp only [Act.put, List.setIfInBounds_toArray, List.set_cons_zero, List.set_cons_succ]
              refine takeL (i := 7) (oi := ?_) (v := ?_) ?_ (by kernel_rfl) (by kernel_rfl) (by kernel_rfl) (by kernel_rfl) ?_ (Or.inl ⟨?_, ?_⟩) (by assumption) ?_
              rotate_left 2
              · (simp only [List.getElem?_toArray, List.getElem?_cons_succ, List.getElem?_cons_zero]; rfl)
              · exact fun _ _ _ h => h
              · rfl
              · (intro w hSw; (try dsimp only at hSw); go_simp; (try with_reducible rfl))
              try simp only [Act.put, List.setIfInBounds_toArray, List.set_cons_zero, List.set_cons_succ]
              refine takeL (i := 8) (oi := ?_) (v := ?_) ?_ (by kernel_rfl) (by kernel_rfl) (by kernel_rfl) (by kernel_rfl) ?_ (Or.inl ⟨?_, ?_⟩) (by assumption) ?_
              rotate_left 2
              · (simp only [List.getElem?_toArray, List.getElem?_cons_succ, List.getElem?_cons_zero]; rfl)
              · exact fun _ _ _ h => h
              · rfl
              · (intro w hSw; (try dsimp only at hSw); go_simp; (try with_reducible rfl))
              try simp only [Act.put, List.setIfInBounds_toArray, List.set_cons_zero, List.set_cons_succ]
              refine takeL (i := 9) (oi := ?_) (v := ?_) ?_ (by kernel_rfl) (by kernel_rfl) (by kernel_rfl) (by kernel_rfl) ?_ (Or.inl ⟨?_, ?_⟩) (by assumption) ?_
              rotate_left 2
              · (simp only [List.getElem?_toArray, List.getElem?_cons_succ, List.getElem?_cons_zero]; rfl)
              · exact fun _ _ _ h => h
              · rfl
              · (intro w hSw; (try dsimp only at hSw); go_simp; (try with_reducible rfl))
              try simp only [Act.put, List.setIfInBounds_toArray, List.set_cons_zero, List.set_cons_succ]
              refine takeL (i := 10) (oi := ?_) (v := ?_) ?_ (by kernel_rfl) (by kernel_rfl) (by kernel_rfl) (by kernel_rfl) ?_ (Or.inl ⟨?_, ?_⟩) (by assumption) ?_
              rotate_left 2
              · (simp only [List.getElem?_toArray, List.getElem?_cons_succ, List.getElem?_cons_zero]; rfl)
              · exact fun _ _ _ h => h
              · rfl
              · (intro w hSw; (try dsimp only at hSw); go_simp; (try with_reducible rfl))
              try simp only [Act.put, List.setIfInBounds_toArray, List.set_cons_zero, List.set_cons_succ]
              refine doneL (by kernel_rfl) ?_ _
              go_wp2_with fail
              go_meet
              case rel => exact ⟨e, he0, he, rfl, hend, Lib.hid (Below.drew hBo.out)⟩
          · obtain rfl : e = 16 := by omega
            have hend : Hid (Pl.band G y 1 = 16 - y) := Lib.hid (by
              rw [hb.out]
              exact Pl.band_end fun h => by omega)
            go_wp2_with fail
            refine regionL (S := (fun w' => True)) (L := 11) (by kernel_rfl) ?_ (fun hHeld => ?_)
            · trivial
            refine takeL (i := 0) (oi := ?_) (v := ?_) ?_ (by kernel_rfl) (by kernel_rfl) (by kernel_rfl) (by kernel_rfl) ?_ (Or.inl ⟨?_, ?_⟩) (by assumption) ?_
            rotate_left 2
            · (simp only [List.getElem?_toArray, List.getElem?_cons_succ, List.getElem?_cons_zero]; rfl)
            · exact fun _ _ _ h => h
            · rfl
            · (intro w hSw; (try dsimp only at hSw); go_simp; (try with_reducible rfl))
            try simp only [Act.put, List.setIfInBounds_toArray, List.set_cons_zero, List.set_cons_succ]
            refine takeL (i := 1) (oi := ?_) (v := ?_) ?_ (by kernel_rfl) (by kernel_rfl) (by kernel_rfl) (by kernel_rfl) ?_ (Or.inl ⟨?_, ?_⟩) (by assumption) ?_
            rotate_left 2
            · (simp only [List.getElem?_toArray, List.getElem?_cons_succ, List.getElem?_cons_zero]; rfl)
            · exact fun _ _ _ h => h
            · rfl
            · (intro w hSw; (try dsimp only at hSw); go_simp; (try with_reducible rfl))
            try simp only [Act.put, List.setIfInBounds_toArray, List.set_cons_zero, List.set_cons_succ]
            refine takeL (i := 2) (oi := ?_) (v := ?_) ?_ (by kernel_rfl) (by kernel_rfl) (by kernel_rfl) (by kernel_rfl) ?_ (Or.inl ⟨?_, ?_⟩) (by assumption) ?_
            rotate_left 2
            · (simp only [List.getElem?_toArray, List.getElem?_cons_succ, List.getElem?_cons_zero]; rfl)
            · exact fun _ _ _ h => h
            · rfl
            · (intro w hSw; (try dsimp only at hSw); go_simp; (try with_reducible rfl))
            try simp only [Act.put, List.setIfInBounds_toArray, List.set_cons_zero, List.set_cons_succ]
            refine takeL (i := 3) (oi := ?_) (v := undef) ?_ (by kernel_rfl) (by kernel_rfl) (by kernel_rfl) (by kernel_rfl) ?_ ?_ (by assumption) ?_
            rotate_left
            · (simp only [List.getElem?_toArray, List.getElem?_cons_succ, List.getElem?_cons_zero]; rfl)
            · exact fun _ _ _ h => h
            · exact Or.inr ⟨by rfl, rfl⟩
            try simp only [Act.put, List.setIfInBounds_toArray, List.set_cons_zero, List.set_cons_succ]
            refine takeL (i := 4) (oi := ?_) (v := undef) ?_ (by kernel_rfl) (by kernel_rfl) (by kernel_rfl) (by kernel_rfl) ?_ ?_ (by assumption) ?_
            rotate_left
            · (simp only [List.getElem?_toArray, List.getElem?_cons_succ, List.getElem?_cons_zero]; rfl)
            · exact fun _ _ _ h => h
            · exact Or.inr ⟨by rfl, rfl⟩
            try simp only [Act.put, List.setIfInBounds_toArray, List.set_cons_zero, List.set_cons_succ]
            refine takeL (i := 5) (oi := ?_) (v := undef) ?_ (by kernel_rfl) (by kernel_rfl) (by kernel_rfl) (by kernel_rfl) ?_ ?_ (by assumption) ?_
            rotate_left
            · (simp only [List.getElem?_toArray, List.getElem?_cons_succ, List.getElem?_cons_zero]; rfl)
            · exact fun _ _ _ h => h
            · exact Or.inr ⟨by rfl, rfl⟩
            try simp only [Act.put, List.setIfInBounds_toArray, List.set_cons_zero, List.set_cons_succ]
            refine takeL (i := 6) (oi := ?_) (v := undef) ?_ (by kernel_rfl) (by kernel_rfl) (by kernel_rfl) (by kernel_rfl) ?_ ?_ (by assumption) ?_
            rotate_left
            · (simp only [List.getElem?_toArray, List.getElem?_cons_succ, List.getElem?_cons_zero]; rfl)
            · exact fun _ _ _ h => h
            · exact Or.inr ⟨by rfl, rfl⟩
            try simp only [Act.put, List.setIfInBounds_toArray, List.set_cons_zero, List.set_cons_succ]
            refine takeL (i := 7) (oi := ?_) (v := undef) ?_ (by kernel_rfl) (by kernel_rfl) (by kernel_rfl) (by kernel_rfl) ?_ ?_ (by assumption) ?_
            rotate_left
            · (simp only [List.getElem?_toArray, List.getElem?_cons_succ, List.getElem?_cons_zero]; rfl)
            · exact fun _ _ _ h => h
            · exact Or.inr ⟨by rfl, rfl⟩
            try simp only [Act.put, List.setIfInBounds_toArray, List.set_cons_zero, List.set_cons_succ]
            refine takeL (i := 8) (oi := ?_) (v := undef) ?_ (by kernel_rfl) (by kernel_rfl) (by kernel_rfl) (by kernel_rfl) ?_ ?_ (by assumption) ?_
            rotate_left
            · (simp only [List.getElem?_toArray, List.getElem?_cons_succ, List.getElem?_cons_zero]; rfl)
            · exact fun _ _ _ h => h
            · exact Or.inr ⟨by rfl, rfl⟩
            try simp only [Act.put, List.setIfInBounds_toArray, List.set_cons_zero, List.set_cons_succ]
            refine takeL (i := 9) (oi := ?_) (v := undef) ?_ (by kernel_rfl) (by kernel_rfl) (by kernel_rfl) (by kernel_rfl) ?_ ?_ (by assumption) ?_
            rotate_left
            · (simp only [List.getElem?_toArray, List.getElem?_cons_succ, List.getElem?_cons_zero]; rfl)
            · exact fun _ _ _ h => h
            · exact Or.inr ⟨by rfl, rfl⟩
            try simp only [Act.put, List.setIfInBounds_toArray, List.set_cons_zero, List.set_cons_succ]
            refine takeL (i := 10) (oi := ?_) (v := ?_) ?_ (by kernel_rfl) (by kernel_rfl) (by kernel_rfl) (by kernel_rfl) ?_ (Or.inl ⟨?_, ?_⟩) (by assumption) ?_
            rotate_left 2
            · (simp only [List.getElem?_toArray, List.getElem?_cons_succ, List.getElem?_cons_zero]; rfl)
            · exact fun _ _ _ h => h
            · rfl
            · (intro w hSw; (try dsimp only at hSw); go_simp; (try with_reducible rfl))
            try simp only [Act.put, List.setIfInBounds_toArray, List.set_cons_zero, List.set_cons_succ]
            refine doneL (by kernel_rfl) ?_ _
            go_wp2_with fail
            go_meet
            case rel => exact ⟨16, he0, he, rfl, hend, Lib.hid (Below.drew hBo.out)⟩
      case rest =>
        obtain ⟨e, he0, he, rfl, hb, hBo⟩ := hcut
        have hG1 := Lib.hid (hG.out.below hBo.out hG.out.lt)
        have hR1 := Lib.hid (hR.out.step hBo.out)
        have hA1 := Lib.hid (hA.out.step hBo.out)
        have hB1 := Lib.hid (later hB.out hBo.out)
        have hds : Hid (Pl.canonFrom G 0 = d ++ (Pl.rowRects (G y) 0 y (e - y) ++ Pl.canonFrom G e)) := Lib.hid (by rw [hd.out, Pl.canonFrom_step hlt hb.out, show y + (e - y) = e by omega])
        clear hG hR hA hB hd
        go_wp2_with fail
        go_loopw [6] (fun sx wr => ∃ (x : Nat) (d1 : List Pl.R) (v1 : Value), x ≤ 17 ∧ sx = .int .i64 x ∧ Hid (d ++ (Pl.rowRects (G y) 0 y (e - y) ++ Pl.canonFrom G e) = d1 ++ (Pl.rowRects (G y) x y (e - y) ++ Pl.canonFrom G e)) ∧ Hid (GB wr w.heap.size m) ∧ Hid (VB wr (w.heap.size + 1) [.slice none 0 0]) ∧ Hid (RAcc wr (w.heap.size + 3) (w.heap.size + 1 + 1) d1 v1) ∧ Hid (Below w.heap.size w wr)) (fun sx _ => 17 - (intOf sx).toNat)
        case atStart => exact ⟨0, d, v, by omega, rfl, Lib.hid rfl, hG1, hR1, hA1, hB1⟩
        case round =>
          obtain ⟨wi, rfl⟩ : ∃ wi : World, wi = wr := ⟨_, rfl⟩
          obtain ⟨x, d1, v1, hx, rfl, hd1, hG, hR, hA, hB⟩ := hrel
          have xp0 : (0 : Int) ≤ (x : Int) := Int.natCast_nonneg _
          by_cases hxl : x < 16
          · have xp1 : (x : Int) < 16 := by omega
            go_upto_block 6 with fail
            go_cut [6] from 29 to 41 (fun sx wx => ∃ z : Nat, x ≤ z ∧ z ≤ 16 ∧ sx = .int .i64 z ∧ Hid (Pl.runLen (G y) x = z - x) ∧ Hid (Below wi.heap.size wi wx))
            case first =>
              go_wp2_with fail
              go_loopw [6] (fun sx wr => ∃ z : Nat, x ≤ z ∧ z ≤ 16 ∧ sx = .int .i64 z ∧ Hid (Pl.runLen (G y) x = z - x + Pl.runLen (G y) z) ∧ Hid (Below wi.heap.size wi wr)) (fun sx _ => 16 - (intOf sx).toNat)
              case atStart => exact ⟨x, Nat.le_refl _, by omega, rfl, Lib.hid (by omega), Lib.hid (Below.refl _ _)⟩
              case round =>
                obtain ⟨z, hz0, hz, rfl, hrl, hBi⟩ := hrel
                have hGe := Lib.hid (hG.out.below hBi.out hG.out.lt)
                have lt0 := hGe.out.lt
                have cy := hGe.out.cell hlt
                have zp0 : (0 : Int) ≤ (z : Int) := Int.natCast_nonneg _
                by_cases hzl : z < 16
                · have zp1 : (z : Int) < 16 := by omega
                  have hbt := bit_test (HM.out y hlt).1 hzl
                  rw [(HM.out y hlt).2 z hzl] at hbt
                  cases hgz : G y z
                  · rw [hgz] at hbt
                    have hend : Hid (Pl.runLen (G y) x = z - x) := Lib.hid (by rw [hrl.out, Pl.runLen_zero (fun h => by rw [hgz] at h; cases h.2)]; omega)
                    go_wp2_with fail
                    refine regionL (S := (fun w' => w'.cell? ⟨w.heap.size, y, none⟩ = some (.int .i64 (m y)))) (L := 11) (by kernel_rfl) ?_ (fun hHeld => ?_)
                    · (((try dsimp only); (repeat' apply And.intro) <;> (first | (simp only [World.cell?_drew, *]; done) | (simp (disch := (first | omega | (simp; omega))) only [cell_far, cell_old, World.cell?_drew, *]; done))))
                    refine takeL (i := 0) (oi := ?_) (v := ?_) ?_ (by kernel_rfl) (by kernel_rfl) (by kernel_rfl) (by kernel_rfl) ?_ (Or.inl ⟨?_, ?_⟩) (by assumption) ?_
                    rotate_left 2
                    · (simp only [List.getElem?_toArray, List.getElem?_cons_succ, List.getElem?_cons_zero]; rfl)
                    · exact fun _ _ _ h => h
                    · rfl
                    · (intro w hSw; (try dsimp only at hSw); go_simp; (try with_reducible rfl))
                    try simp only [Act.put, List.setIfInBounds_toArray, List.set_cons_zero, List.set_cons_succ]
                    refine takeL (i := 1) (oi := ?_) (v := ?_) ?_ (by kernel_rfl) (by kernel_rfl) (by kernel_rfl) (by kernel_rfl) ?_ (Or.inl ⟨?_, ?_⟩) (by assumption) ?_
                    rotate_left 2
                    · (simp only [List.getElem?_toArray, List.getElem?_cons_succ, List.getElem?_cons_zero]; rfl)
                    · exact fun _ _ _ h => h
                    · rfl
                    · (intro w hSw; (try dsimp only at hSw); go_simp; (try with_reducible rfl))
                    try simp only [Act.put, List.setIfInBounds_toArray, List.set_cons_zero, List.set_cons_succ]
                    refine takeL (i := 2) (oi := ?_) (v := ?_) ?_ (by kernel_rfl) (by kernel_rfl) (by kernel_rfl) (by kernel_rfl) ?_ (Or.inl ⟨?_, ?_⟩) (by assumption) ?_
                    rotate_left 2
                    · (simp only [List.getElem?_toArray, List.getElem?_cons_succ, List.getElem?_cons_zero]; rfl)
                    · exact fun _ _ _ h => h
                    · rfl
                    · (intro w hSw; (try dsimp only at hSw); go_simp; (try with_reducible rfl))
                    try simp only [Act.put, List.setIfInBounds_toArray, List.set_cons_zero, List.set_cons_succ]
                    refine takeL (i := 3) (oi := ?_) (v := ?_) ?_ (by kernel_rfl) (by kernel_rfl) (by kernel_rfl) (by kernel_rfl) ?_ (Or.inl ⟨?_, ?_⟩) (by assumption) ?_
                    rotate_left 2
                    · (simp only [List.getElem?_toArray, List.getElem?_cons_succ, List.getElem?_cons_zero]; rfl)
                    · exact fun _ _ _ h => h
                    · rfl
                    · (intro w hSw; (try dsimp only at hSw); go_simp; (try with_reducible rfl))
                    try simp only [Act.put, List.setIfInBounds_toArray, List.set_cons_zero, List.set_cons_succ]
                    refine takeL (i := 4) (oi := ?_) (v := ?_) ?_ (by kernel_rfl) (by kernel_rfl) (by kernel_rfl) (by kernel_rfl) ?_ (Or.inl ⟨?_, ?_⟩) (by assumption) ?_
                    rotate_left 2
                    · (simp only [List.getElem?_toArray, List.getElem?_cons_succ, List.getElem?_cons_zero]; rfl)
                    · exact fun _ _ _ h => h
                    · rfl
                    · (intro w hSw; (try dsimp only at hSw); go_simp; (try with_reducible rfl))
                    try simp only [Act.put, List.setIfInBounds_toArray, List.set_cons_zero, List.set_cons_succ]
                    refine takeL (i := 5) (oi := ?_) (v := ?_) ?_ (by kernel_rfl) (by kernel_rfl) (by kernel_rfl) (by kernel_rfl) ?_ (Or.inl ⟨?_, ?_⟩) (by assumption) ?_
                    rotate_left 2
                    · (simp only [List.getElem?_toArray, List.getElem?_cons_succ, List.getElem?_cons_zero]; rfl)
                    · exact fun _ _ _ h => h
                    · rfl
                    · (intro w hSw; (try dsimp only at hSw); go_simp; (try with_reducible rfl))
                    try simp only [Act.put, List.setIfInBounds_toArray, List.set_cons_zero, List.set_cons_succ]
                    refine takeL (i := 6) (oi := ?_) (v := ?_) ?_ (by kernel_rfl) (by kernel_rfl) (by kernel_rfl) (by kernel_rfl) ?_ (Or.inl ⟨?_, ?_⟩) (by assumption) ?_
                    rotate_left 2
                    · (simp only [List.getElem?_toArray, List.getElem?_cons_succ, List.getElem?_cons_zero]; rfl)
                    · exact fun _ _ _ h => h
                    · rfl
                    · (intro w hSw; (try dsimp only at hSw); go_simp; (try with_reducible rfl))
                    try simp only [Act.put, List.setIfInBounds_toArray, List.set_cons_zero, List.set_cons_succ]
                    refine takeL (i := 7) (oi := ?_) (v := ?_) ?_ (by kernel_rfl) (by kernel_rfl) (by kernel_rfl) (by kernel_rfl) ?_ (Or.inl ⟨?_, ?_⟩) (by assumption) ?_
                    rotate_left 2
                    · (simp only [List.getElem?_toArray, List.getElem?_cons_succ, List.getElem?_cons_zero]; rfl)
                    · exact fun _ _ _ h => h
                    · rfl
                    · (intro w hSw; (try dsimp only at hSw); go_simp; (try with_reducible rfl))
                    try simp only [Act.put, List.setIfInBounds_toArray, List.set_cons_zero, List.set_cons_succ]
                    refine takeL (i := 8) (oi := ?_) (v := ?_) ?_ (by kernel_rfl) (by kernel_rfl) (by kernel_rfl) (by kernel_rfl) ?_ (Or.inl ⟨?_, ?_⟩) (by assumption) ?_
                    rotate_left 2
                    · (simp only [List.getElem?_toArray, List.getElem?_cons_succ, List.getElem?_cons_zero]; rfl)
                    · exact fun _ _ _ h => h
                    · rfl
                    · (intro w hSw; (try dsimp only at hSw); go_simp; (try with_reducible rfl))
                    try simp only [Act.put, List.setIfInBounds_toArray, List.set_cons_zero, List.set_cons_succ]
                    refine takeL (i := 9) (oi := ?_) (v := ?_) ?_ (by kernel_rfl) (by kernel_rfl) (by kernel_rfl) (by kernel_rfl) ?_ (Or.inl ⟨?_, ?_⟩) (by assumption) ?_
                    rotate_left 2
                    · (simp only [List.getElem?_toArray, List.getElem?_cons_succ, List.getElem?_cons_zero]; rfl)
                    · exact fun _ _ _ h => h
                    · rfl
                    · (intro w hSw; (try dsimp only at hSw); go_simp; (try with_reducible rfl))
                    try simp only [Act.put, List.setIfInBounds_toArray, List.set_cons_zero, List.set_cons_succ]
                    refine takeL (i := 10) (oi := ?_) (v := ?_) ?_ (by kernel_rfl) (by kernel_rfl) (by kernel_rfl) (by kernel_rfl) ?_ (Or.inl ⟨?_, ?_⟩) (by assumption) ?_
                    rotate_left 2
                    · (simp only [List.getElem?_toArray, List.getElem?_cons_succ, List.getElem?_cons_zero]; rfl)
                    · exact fun _ _ _ h => h
                    · rfl
                    · (intro w hSw; (try dsimp only at hSw); go_simp; (try with_reducible rfl))
                    try simp only [Act.put, List.setIfInBounds_toArray, List.set_cons_zero, List.set_cons_succ]
                    refine doneL (by kernel_rfl) ?_ _
                    go_wp2_with fail
                    go_meet
                    case rel => exact ⟨z, hz0, hz, rfl, hend, Lib.hid (Below.drew hBi.out)⟩
                  · rw [hgz] at hbt
                    go_wp2_with fail
                    refine regionL (S := (fun w' => w'.cell? ⟨w.heap.size, y, none⟩ = some (.int .i64 (m y)))) (L := 11) (by kernel_rfl) ?_ (fun hHeld => ?_)
                    · (((try dsimp only); (repeat' apply And.intro) <;> (first | (simp only [World.cell?_drew, *]; done) | (simp (disch := (first | omega | (simp; omega))) only [cell_far, cell_old, World.cell?_drew, *]; done))))
                    refine takeL (i := 0) (oi := ?_) (v := ?_) ?_ (by kernel_rfl) (by kernel_rfl) (by kernel_rfl) (by kernel_rfl) ?_ (Or.inl ⟨?_, ?_⟩) (by assumption) ?_
                    rotate_left 2
                    · (simp only [List.getElem?_toArray, List.getElem?_cons_succ, List.getElem?_cons_zero]; rfl)
                    · exact fun _ _ _ h => h
                    · rfl
                    · (intro w hSw; (try dsimp only at hSw); go_simp; (try with_reducible rfl))
                    try simp only [Act.put, List.setIfInBounds_toArray, List.set_cons_zero, List.set_cons_succ]
                    refine takeL (i := 1) (oi := ?_) (v := ?_) ?_ (by kernel_rfl) (by kernel_rfl) (by kernel_rfl) (by kernel_rfl) ?_ (Or.inl ⟨?_, ?_⟩) (by assumption) ?_
                    rotate_left 2
                    · (simp only [List.getElem?_toArray, List.getElem?_cons_succ, List.getElem?_cons_zero]; rfl)
                    · exact fun _ _ _ h => h
                    · rfl
                    · (intro w hSw; (try dsimp only at hSw); go_simp; (try with_reducible rfl))
                    try simp only [Act.put, List.setIfInBounds_toArray, List.set_cons_zero, List.set_cons_succ]
                    refine takeL (i := 2) (oi := ?_) (v := ?_) ?_ (by kernel_rfl) (by kernel_rfl) (by kernel_rfl) (by kernel_rfl) ?_ (Or.inl ⟨?_, ?_⟩) (by assumption) ?_
                    rotate_left 2
                    · (simp only [List.getElem?_toArray, List.getElem?_cons_succ, List.getElem?_cons_zero]; rfl)
                    · exact fun _ _ _ h => h
                    · rfl
                    · (intro w hSw; (try dsimp only at hSw); go_simp; (try with_reducible rfl))
                    try simp only [Act.put, List.setIfInBounds_toArray, List.set_cons_zero, List.set_cons_succ]
                    refine takeL (i := 3) (oi := ?_) (v := ?_) ?_ (by kernel_rfl) (by kernel_rfl) (by kernel_rfl) (by kernel_rfl) ?_ (Or.inl ⟨?_, ?_⟩) (by assumption) ?_
                    rotate_left 2
                    · (simp only [List.getElem?_toArray, List.getElem?_cons_succ, List.getElem?_cons_zero]; rfl)
                    · exact fun _ _ _ h => h
                    · rfl
                    · (intro w hSw; (try dsimp only at hSw); go_simp; (try with_reducible rfl))
                    try simp only [Act.put, List.setIfInBounds_toArray, List.set_cons_zero, List.set_cons_succ]
                    refine takeL (i := 4) (oi := ?_) (v := ?_) ?_ (by kernel_rfl) (by kernel_rfl) (by kernel_rfl) (by kernel_rfl) ?_ (Or.inl ⟨?_, ?_⟩) (by assumption) ?_
                    rotate_left 2
                    · (simp only [List.getElem?_toArray, List.getElem?_cons_succ, List.getElem?_cons_zero]; rfl)
                    · exact fun _ _ _ h => h
                    · rfl
                    · (intro w hSw; (try dsimp only at hSw); go_simp; (try with_reducible rfl))
                    try simp only [Act.put, List.setIfInBounds_toArray, List.set_cons_zero, List.set_cons_succ]
                    refine takeL (i := 5) (oi := ?_) (v := ?_) ?_ (by kernel_rfl) (by kernel_rfl) (by kernel_rfl) (by kernel_rfl) ?_ (Or.inl ⟨?_, ?_⟩) (by assumption) ?_
                    rotate_left 2
                    · (simp only [List.getElem?_toArray, List.getElem?_cons_succ, List.getElem?_cons_zero]; rfl)
                    · exact fun _ _ _ h => h
                    · rfl
                    · (intro w hSw; (try dsimp only at hSw); go_simp; (try with_reducible rfl))
                    try simp only [Act.put, List.setIfInBounds_toArray, List.set_cons_zero, List.set_cons_succ]
                    refine takeL (i := 6) (oi := ?_) (v := ?_) ?_ (by kernel_rfl) (by kernel_rfl) (by kernel_rfl) (by kernel_rfl) ?_ (Or.inl ⟨?_, ?_⟩) (by assumption) ?_
                    rotate_left 2
                    · (simp only [List.getElem?_toArray, List.getElem?_cons_succ, List.getElem?_cons_zero]; rfl)
                    · exact fun _ _ _ h => h
                    · rfl
                    · (intro w hSw; (try dsimp only at hSw); go_simp; (try with_reducible rfl))
                    try simp only [Act.put, List.setIfInBounds_toArray, List.set_cons_zero, List.set_cons_succ]
                    refine takeL (i := 7) (oi := ?_) (v := ?_) ?_ (by kernel_rfl) (by kernel_rfl) (by kernel_rfl) (by kernel_rfl) ?_ (Or.inl ⟨?_, ?_⟩) (by assumption) ?_
                    rotate_left 2
                    · (simp only [List.getElem?_toArray, List.getElem?_cons_succ, List.getElem?_cons_zero]; rfl)
                    · exact fun _ _ _ h => h
                    · rfl
                    · (intro w hSw; (try dsimp only at hSw); go_simp; (try with_reducible rfl))
                    try simp only [Act.put, List.setIfInBounds_toArray, List.set_cons_zero, List.set_cons_succ]
                    refine takeL (i := 8) (oi := ?_) (v := ?_) ?_ (by kernel_rfl) (by kernel_rfl) (by kernel_rfl) (by kernel_rfl) ?_ (Or.inl ⟨?_, ?_⟩) (by assumption) ?_
                    rotate_left 2
                    · (simp only [List.getElem?_toArray, List.getElem?_cons_succ, List.getElem?_cons_zero]; rfl)
                    · exact fun _ _ _ h => h
                    · rfl
                    · (intro w hSw; (try dsimp only at hSw); go_simp; (try with_reducible rfl))
                    try simp only [Act.put, List.setIfInBounds_toArray, List.set_cons_zero, List.set_cons_succ]
                    refine takeL (i := 9) (oi := ?_) (v := ?_) ?_ (by kernel_rfl) (by kernel_rfl) (by kernel_rfl) (by kernel_rfl) ?_ (Or.inl ⟨?_, ?_⟩) (by assumption) ?_
                    rotate_left 2
                    · (simp only [List.getElem?_toArray, List.getElem?_cons_succ, List.getElem?_cons_zero]; rfl)
                    · exact fun _ _ _ h => h
                    · rfl
                    · (intro w hSw; (try dsimp only at hSw); go_simp; (try with_reducible rfl))
                    try simp only [Act.put, List.setIfInBounds_toArray, List.set_cons_zero, List.set_cons_succ]
                    refine takeL (i := 10) (oi := ?_) (v := ?_) ?_ (by kernel_rfl) (by kernel_rfl) (by kernel_rfl) (by kernel_rfl) ?_ (Or.inl ⟨?_, ?_⟩) (by assumption) ?_
                    rotate_left 2
                    · (simp only [List.getElem?_toArray, List.getElem?_cons_succ, List.getElem?_cons_zero]; rfl)
                    · exact fun _ _ _ h => h
                    · rfl
                    · (intro w hSw; (try dsimp only at hSw); go_simp; (try with_reducible rfl))
                    try simp only [Act.put, List.setIfInBounds_toArray, List.set_cons_zero, List.set_cons_succ]
                    refine doneL (by kernel_rfl) ?_ _
                    go_wp2_with fail
                    go_roundw
                    case rel => exact ⟨z + 1, by omega, by omega, by go_num, Lib.hid (by rw [hrl.out, Pl.runLen_step hzl hgz]; omega), Lib.hid (Below.drew hBi.out)⟩
                    case measure => simp [intOf]; omega
                · obtain rfl : z = 16 := by omega
                  have hend : Hid (Pl.runLen (G y) x = 16 - x) := Lib.hid (by rw [hrl.out, Pl.runLen_zero (fun h => by omega)]; omega)
                  go_wp2_with fail
                  refine regionL (S := (fun w' => True)) (L := 11) (by kernel_rfl) ?_ (fun hHeld => ?_)
                  · trivial
                  refine takeL (i := 0) (oi := ?_) (v := ?_) ?_ (by kernel_rfl) (by kernel_rfl) (by kernel_rfl) (by kernel_rfl) ?_ (Or.inl ⟨?_, ?_⟩) (by assumption) ?_
                  rotate_left 2
                  · (simp only [List.getElem?_toArray, List.getElem?_cons_succ, List.getElem?_cons_zero]; rfl)
                  · exact fun _ _ _ h => h
                  · rfl
                  · (intro w hSw; (try dsimp only at hSw); go_simp; (try with_reducible rfl))
                  try simp only [Act.put, List.setIfInBounds_toArray, List.set_cons_zero, List.set_cons_succ]
                  refine takeL (i := 1) (oi := ?_) (v := ?_) ?_ (by kernel_rfl) (by kernel_rfl) (by kernel_rfl) (by kernel_rfl) ?_ (Or.inl ⟨?_, ?_⟩) (by assumption) ?_
                  rotate_left 2
                  · (simp only [List.getElem?_toArray, List.getElem?_cons_succ, List.getElem?_cons_zero]; rfl)
                  · exact fun _ _ _ h => h
                  · rfl
                  · (intro w hSw; (try dsimp only at hSw); go_simp; (try with_reducible rfl))
                  try simp only [Act.put, List.setIfInBounds_toArray, List.set_cons_zero, List.set_cons_succ]
                  refine takeL (i := 2) (oi := ?_) (v := ?_) ?_ (by kernel_rfl) (by kernel_rfl) (by kernel_rfl) (by kernel_rfl) ?_ (Or.inl ⟨?_, ?_⟩) (by assumption) ?_
                  rotate_left 2
                  · (simp only [List.getElem?_toArray, List.getElem?_cons_succ, List.getElem?_cons_zero]; rfl)
                  · exact fun _ _ _ h => h
                  · rfl
                  · (intro w hSw; (try dsimp only at hSw); go_simp; (try with_reducible rfl))
                  try simp only [Act.put, List.setIfInBounds_toArray, List.set_cons_zero, List.set_cons_succ]
                  refine takeL (i := 3) (oi := ?_) (v := undef) ?_ (by kernel_rfl) (by kernel_rfl) (by kernel_rfl) (by kernel_rfl) ?_ ?_ (by assumption) ?_
                  rotate_left
                  · (simp only [List.getElem?_toArray, List.getElem?_cons_succ, List.getElem?_cons_zero]; rfl)
                  · exact fun _ _ _ h => h
                  · exact Or.inr ⟨by rfl, rfl⟩
                  try simp only [Act.put, List.setIfInBounds_toArray, List.set_cons_zero, List.set_cons_succ]
                  refine takeL (i := 4) (oi := ?_) (v := undef) ?_ (by kernel_rfl) (by kernel_rfl) (by kernel_rfl) (by kernel_rfl) ?_ ?_ (by assumption) ?_
                  rotate_left
                  · (simp only [List.getElem?_toArray, List.getElem?_cons_succ, List.getElem?_cons_zero]; rfl)
                  · exact fun _ _ _ h => h
                  · exact Or.inr ⟨by rfl, rfl⟩
                  try simp only [Act.put, List.setIfInBounds_toArray, List.set_cons_zero, List.set_cons_succ]
                  refine takeL (i := 5) (oi := ?_) (v := undef) ?_ (by kernel_rfl) (by kernel_rfl) (by kernel_rfl) (by kernel_rfl) ?_ ?_ (by assumption) ?_
                  rotate_left
                  · (simp only [List.getElem?_toArray, List.getElem?_cons_succ, List.getElem?_cons_zero]; rfl)
                  · exact fun _ _ _ h => h
                  · exact Or.inr ⟨by rfl, rfl⟩
                  try simp only [Act.put, List.setIfInBounds_toArray, List.set_cons_zero, List.set_cons_succ]
                  refine takeL (i := 6) (oi := ?_) (v := undef) ?_ (by kernel_rfl) (by kernel_rfl) (by kernel_rfl) (by kernel_rfl) ?_ ?_ (by assumption) ?_
                  rotate_left
                  · (simp only [List.getElem?_toArray, List.getElem?_cons_succ, List.getElem?_cons_zero]; rfl)
                  · exact fun _ _ _ h => h
                  · exact Or.inr ⟨by rfl, rfl⟩
                  try simp only [Act.put, List.setIfInBounds_toArray, List.set_cons_zero, List.set_cons_succ]
                  refine takeL (i := 7) (oi := ?_) (v := undef) ?_ (by kernel_rfl) (by kernel_rfl) (by kernel_rfl) (by kernel_rfl) ?_ ?_ (by assumption) ?_
                  rotate_left
                  · (simp only [List.getElem?_toArray, List.getElem?_cons_succ, List.getElem?_cons_zero]; rfl)
                  · exact fun _ _ _ h => h
                  · exact Or.inr ⟨by rfl, rfl⟩
                  try simp only [Act.put, List.setIfInBounds_toArray, List.set_cons_zero, List.set_cons_succ]
                  refine takeL (i := 8) (oi := ?_) (v := undef) ?_ (by kernel_rfl) (by kernel_rfl) (by kernel_rfl) (by kernel_rfl) ?_ ?_ (by assumption) ?_
                  rotate_left
                  · (simp only [List.getElem?_toArray, List.getElem?_cons_succ, List.getElem?_cons_zero]; rfl)
                  · exact fun _ _ _ h => h
                  · exact Or.inr ⟨by rfl, rfl⟩
                  try simp only [Act.put, List.setIfInBounds_toArray, List.set_cons_zero, List.set_cons_succ]
                  refine takeL (i := 9) (oi := ?_) (v := undef) ?_ (by kernel_rfl) (by kernel_rfl) (by kernel_rfl) (by kernel_rfl) ?_ ?_ (by assumption) ?_
                  rotate_left
                  · (simp only [List.getElem?_toArray, List.getElem?_cons_succ, List.getElem?_cons_zero]; rfl)
                  · exact fun _ _ _ h => h
                  · exact Or.inr ⟨by rfl, rfl⟩
                  try simp only [Act.put, List.setIfInBounds_toArray, List.set_cons_zero, List.set_cons_succ]
                  refine takeL (i := 10) (oi := ?_) (v := ?_) ?_ (by kernel_rfl) (by kernel_rfl) (by kernel_rfl) (by kernel_rfl) ?_ (Or.inl ⟨?_, ?_⟩) (by assumption) ?_
                  rotate_left 2
                  · (simp only [List.getElem?_toArray, List.getElem?_cons_succ, List.getElem?_cons_zero]; rfl)
                  · exact fun _ _ _ h => h
                  · rfl
                  · (intro w hSw; (try dsimp only at hSw); go_simp; (try with_reducible rfl))
                  try simp only [Act.put, List.setIfInBounds_toArray, List.set_cons_zero, List.set_cons_succ]
                  refine doneL (by kernel_rfl) ?_ _
                  go_wp2_with fail
                  go_meet
                  case rel => exact ⟨16, hz0, hz, rfl, hend, Lib.hid (Below.drew hBi.out)⟩
            case rest =>
              obtain ⟨z, hz0, hz, rfl, hrl, hBi⟩ := hcut
              have hG1 := Lib.hid (hG.out.below hBi.out hG.out.lt)
              have hR1 := Lib.hid (hR.out.step hBi.out)
              have hA1 := Lib.hid (hA.out.step hBi.out)
              have hB1 := Lib.hid (later hB.out hBi.out)
              clear hG hR hA hB
              by_cases hzx : z = x
              · subst hzx
                go_wp2_with fail
                go_roundw
                case rel => exact ⟨z + 1, d1, v1, by omega, by go_num, Lib.hid (by rw [hd1.out, Pl.rowRects_none hxl (by rw [hrl.out]; omega)]), hG1, hR1, hA1, hB1⟩
                case measure => simp [intOf]; omega
              · have hgt : (x : Int) < z := by omega
                have hlen : d1.length ≤ 256 := by
                  have h1 := Pl.canonFrom_length G 0
                  rw [hds.out, hd1.out, List.length_append] at h1
                  omega
                obtain ⟨lb, cb, fb⟩ := hA1.out.1.open1
                go_wp2_with (refine wpList_append_lies _ rfl _ _ 26 rfl (w.heap.size + 3) 50 i0 (.agg #[.int .i64 0, .int .i64 0, .int .i64 0, .int .i64 0]) 4 32 Try.underlying26 hi0 hz0' hz1 hz2 rfl (by decide) v1 d1.length _ rfl ((Own.alloc (Own.of_row hA1.out.2.1) _).1) ⟨wc.heap.size, 0, none⟩ 1 1 (rc ⟨x, y, z - x, e - y⟩) rfl rfl (World.news_of_block (heap_alloc_new _ _)) (rcells_one [⟨x, y, z - x, e - y⟩]) (by omega) (by unfold maxLen; omega) (by omega) (by have := hA1.out.2.2.2; simp; omega) _ rfl ?_; intro gg cap w2 hown2 hgrow2 hat2 hlt7; have ⟨lw2, vb2⟩ := hA1.out.after (by go_grown) hgrow2; have P2 := Lib.hid (hA1.out.push (by go_grown) hgrow2 hown2); have lw3 := Lib.hid lw2; have hv2 := Lib.hid vb2; obtain ⟨lb2, cb2, fb2⟩ := vb2.open1; clear hown2 hgrow2 hat2 lw2 vb2)
                go_roundw
                case rel =>
                  have exz : ((z - x : Nat) : Int) = (z : Int) - x := by omega
                  have eey : ((e - y : Nat) : Int) = (e : Int) - y := by omega
                  refine ⟨z + 1, d1 ++ [⟨x, y, (z : Int) - x, (e : Int) - y⟩], _, by omega, by go_num, Lib.hid ?_, Lib.hid ((hG1.out.below lw3.out (by omega)).far _ _ (by show w.heap.size ≠ w.heap.size + 1 + 1; omega)), Lib.hid ((hR1.out.below lw3.out (by omega)).far _ _ (by show w.heap.size + 1 ≠ w.heap.size + 1 + 1; omega)), P2, Lib.hid (((hB1.out.trans (lw3.out.mono (by omega)))).setCell (by simp; omega) _)⟩
                  rw [hd1.out, Pl.rowRects_some hxl hrl.out (by omega), exz, eey, show x + (z - x) + 1 = z + 1 by omega]
                  simp
                case measure => simp [intOf]; omega
          · go_wp2_with fail
            go_roundw
            case rel =>
              refine ⟨e, d1, v1, he, rfl, Lib.hid ?_, hG, hR, hA, hB⟩
              rw [hds.out, hd1.out, Pl.rowRects_out (by omega)]
              rfl
            case measure => simp [intOf]; omega
    · obtain rfl : y = 16 := by omega
      have hC : Pl.canon G = d := by
        have := hd.out
        rw [Pl.canonFrom_out (Nat.le_refl _), List.append_nil] at this
        exact this
      obtain ⟨A, cap, rfl, _, _⟩ := Own.shape (Own.of_row hA.out.2.1)
      obtain ⟨la, ca, fa⟩ := hA.out.1.open1
      obtain ⟨lr, cr, fr⟩ := hR.out.open1
      go_wp2_with fail
      rw [hC]
      refine bodyPost_ret (v := .agg #[.slice A d.length cap]) (by simp [results, Try.results33, go_sem, cr]) rfl ⟨A, cap, rfl, ?_, hB.out.setCell (by simp) _⟩
      have h1 := (Own.of_row hA.out.2.1).far (p := ⟨w.heap.size + 1, 0, none⟩) (by left; show w.heap.size + 1 < w.heap.size + 3; omega) (.slice A d.length cap)
      exact Own.mono h1 (by omega) (by simp [World.setCell]) (Nat.le_refl _)
end Go.Proofs.Ytmjjepgnciibcaa
