/- Contracts of the small functions over slices of integers: compare, copy, mark, look again. -/
import Derived.Test.YtmjjepgnciibcaaBase
import Derived.Test.YtmjjepgnciibcaaOwn
import Derived.Deep.QuietTactic
import Derived.BigQuiet
namespace Go.Proofs.Ytmjjepgnciibcaa.Pl
theorem take_snoc {α : Type} {l : List α} {k : Nat} {a : α} (h : l[k]? = some a) : l.take (k + 1) = l.take k ++ [a] := by
  rw [List.take_add_one, h]; rfl
theorem take_eq_of_le {α : Type} {l m : List α} {k n : Nat} (h : l.take k = m.take k) (h1 : l.length = n) (h2 : m.length = n) (hk : n ≤ k) : l = m := by
  rwa [List.take_of_length_le (by omega), List.take_of_length_le (by omega)] at h
/-- What is left of the law's measure. -/
def szd (left : Int) (n : Nat) : Int := if left < n then -1 else left - n
/-- The marks: k, k + 1, .. -/
def marks (k : Int) (n : Nat) : List Int := (List.range n).map fun (i : Nat) => k + i
theorem marks_length (k : Int) (n : Nat) : (marks k n).length = n := by simp [marks]
theorem marks_get {k : Int} {n i : Nat} (h : i < n) : (marks k n)[i]? = some (k + i) := by simp [marks, h]
theorem marks_set (k : Int) (i : Nat) (zs : List Int) (h : i < zs.length) : (marks k i ++ zs.drop i).set i (k + i) = marks k (i + 1) ++ zs.drop (i + 1) := by
  rw [List.set_append_right _ _ (by rw [marks_length]; exact Nat.le_refl _), marks_length, Nat.sub_self, List.drop_eq_getElem_cons h, List.set_cons_zero]
  simp [marks, List.range_succ]
theorem copy_set {zs : List Int} {i n : Nat} {z : Int} (h : zs[i]? = some z) (hn : zs.length = n) : (zs.take i ++ List.replicate (n - i) 0).set i z = zs.take (i + 1) ++ List.replicate (n - (i + 1)) 0 := by
  have hi := (List.getElem?_eq_some_iff.1 h).1
  have e : (zs.take i).length = i := by simp; omega
  rw [List.set_append_right _ _ (by omega), e, Nat.sub_self, show n - i = (n - (i + 1)) + 1 by omega, List.replicate_succ, List.set_cons_zero, take_snoc h]
  simp
end Go.Proofs.Ytmjjepgnciibcaa.Pl
namespace Go.Proofs.Ytmjjepgnciibcaa
open Go.RowKit
set_option maxHeartbeats 1000000 in
theorem eqIntS_any (A1 A2 : Option Addr) (n m c1 c2 l1 h1 l2 h2 : Nat) (zs ys : List Int) (w : World) (H1 : Ints w l1 h1 (.slice A1 n c1) zs) (H2 : Ints w l2 h2 (.slice A2 m c2) ys) :
    Calls Try.prog 35 #[.slice A1 n c1, .slice A2 m c2] w fun e w' => e = .returned (.bool (decide (zs = ys))) ∧ Below w.heap.size w w' := by
  have b1 := H1.bd
  have b2 := H2.bd
  have L1 := Lib.hid H1.len_eq
  have L2 := Lib.hid H2.len_eq
  have G1 := Lib.hid H1
  have G2 := Lib.hid H2
  clear H1 H2
  by_cases hnm : n = m
  · subst hnm
    go_enter Try.func35, Try.ntmps35
    go_wp2_with fail
    go_loopw [5] (fun i wr => ∃ k j : Nat, k ≤ n ∧ i = .int .i64 k ∧ zs.take k = ys.take k ∧ wr = w.drewN j) (fun i _ => n - (intOf i).toNat)
    case atStart => exact ⟨0, 0, Nat.zero_le _, rfl, rfl, rfl⟩
    case round =>
      obtain ⟨k, j, hk, rfl, ht, rfl⟩ := hrel
      have HT := Lib.hid ht
      clear ht
      by_cases hlt : k < n
      · obtain ⟨g1, z, rfl, _, _, e1, cc1, _⟩ := G1.out.at_ hlt
        obtain ⟨g2, y, rfl, _, _, e2, cc2, _⟩ := G2.out.at_ hlt
        have E1 := Lib.hid e1
        have E2 := Lib.hid e2
        clear e1 e2
        by_cases hzy : z = y
        · subst hzy
          go_wp2_with fail
          go_quiet (fail)
          go_wp2_with fail
          go_roundw
          case rel => exact ⟨k + 1, _, by omega, by go_num, by rw [Pl.take_snoc E1.out, Pl.take_snoc E2.out, HT.out], rfl⟩
          case measure => simp [intOf]; omega
        · have hb : (z != y) = true := by simpa using hzy
          have hne : zs ≠ ys := by
            intro h
            have := E1.out
            rw [h, E2.out] at this
            exact hzy (by injection this with this; exact this.symm)
          have HN := Lib.hid hne
          clear hne
          go_wp2_with fail
          go_quiet (fail)
          go_wp2_with fail
          go_ret
          exact ⟨ret_bool (by simp [HN.out]), by go_grown; all_goals (first | exact below_refl_drewN _ _ _ | exact below_drewN (below_refl_drewN _ _ _) _)⟩
      · go_wp2_with fail
        go_ret
        exact ⟨ret_bool (by simp [Pl.take_eq_of_le HT.out L1.out L2.out (by omega)]), by go_grown; all_goals (first | exact below_refl_drewN _ _ _ | exact below_drewN (below_refl_drewN _ _ _) _)⟩
  · have hb : ((n : Int) != (m : Int)) = true := by simp; omega
    have hne : zs ≠ ys := by
      intro h
      have a := L1.out
      have b := L2.out
      rw [h] at a
      omega
    go_enter Try.func35, Try.ntmps35
    go_wp2_with fail
    go_ret
    exact ⟨ret_bool (by simp [hne]), by go_grown⟩
set_option maxHeartbeats 1000000 in
theorem sameInts_any (A1 A2 : Option Addr) (n m c1 c2 l1 h1 l2 h2 : Nat) (zs ys : List Int) (w : World) (H1 : Ints w l1 h1 (.slice A1 n c1) zs) (H2 : Ints w l2 h2 (.slice A2 m c2) ys) :
    Calls Try.prog 59 #[.slice A1 n c1, .slice A2 m c2] w fun e w' => e = .returned (.bool (decide (zs = ys))) ∧ Below w.heap.size w w' := by
  have b1 := H1.bd
  have b2 := H2.bd
  have L1 := Lib.hid H1.len_eq
  have L2 := Lib.hid H2.len_eq
  have G1 := Lib.hid H1
  have G2 := Lib.hid H2
  clear H1 H2
  by_cases hnm : n = m
  · subst hnm
    go_enter Try.func59, Try.ntmps59
    go_wp2_with fail
    go_loopw [5] (fun i wr => ∃ k j : Nat, k ≤ n ∧ i = .int .i64 k ∧ zs.take k = ys.take k ∧ wr = w.drewN j) (fun i _ => n - (intOf i).toNat)
    case atStart => exact ⟨0, 0, Nat.zero_le _, rfl, rfl, rfl⟩
    case round =>
      obtain ⟨k, j, hk, rfl, ht, rfl⟩ := hrel
      have HT := Lib.hid ht
      clear ht
      by_cases hlt : k < n
      · obtain ⟨g1, z, rfl, _, _, e1, cc1, _⟩ := G1.out.at_ hlt
        obtain ⟨g2, y, rfl, _, _, e2, cc2, _⟩ := G2.out.at_ hlt
        have E1 := Lib.hid e1
        have E2 := Lib.hid e2
        clear e1 e2
        by_cases hzy : z = y
        · subst hzy
          go_wp2_with fail
          go_quiet (fail)
          go_wp2_with fail
          go_roundw
          case rel => exact ⟨k + 1, _, by omega, by go_num, by rw [Pl.take_snoc E1.out, Pl.take_snoc E2.out, HT.out], rfl⟩
          case measure => simp [intOf]; omega
        · have hb : (z != y) = true := by simpa using hzy
          have hne : zs ≠ ys := by
            intro h
            have := E1.out
            rw [h, E2.out] at this
            exact hzy (by injection this with this; exact this.symm)
          have HN := Lib.hid hne
          clear hne
          go_wp2_with fail
          go_quiet (fail)
          go_wp2_with fail
          go_ret
          exact ⟨ret_bool (by simp [HN.out]), by go_grown; all_goals (first | exact below_refl_drewN _ _ _ | exact below_drewN (below_refl_drewN _ _ _) _)⟩
      · go_wp2_with fail
        go_ret
        exact ⟨ret_bool (by simp [Pl.take_eq_of_le HT.out L1.out L2.out (by omega)]), by go_grown; all_goals (first | exact below_refl_drewN _ _ _ | exact below_drewN (below_refl_drewN _ _ _) _)⟩
  · have hb : ((n : Int) != (m : Int)) = true := by simp; omega
    have hne : zs ≠ ys := by
      intro h
      have a := L1.out
      have b := L2.out
      rw [h] at a
      omega
    go_enter Try.func59, Try.ntmps59
    go_wp2_with fail
    go_ret
    exact ⟨ret_bool (by simp [hne]), by go_grown⟩
theorem szIntS_any (A : Option Addr) (n c : Nat) (left : Int) (w : World) (h0 : 0 ≤ left) (h1 : left ≤ 1048576) (hn : n ≤ 9223372036854775807) : Calls Try.prog 28 #[.slice A n c, .int .i64 left] w fun e w' => e = .returned (.int .i64 (Pl.szd left n)) ∧ w = w' := by
  by_cases h : left < n
  · go_enter Try.func28, Try.ntmps28
    go_wp2
    go_ret
    exact ⟨ret_int (by unfold Pl.szd; rw [if_pos (by omega)]), rfl⟩
  · go_enter Try.func28, Try.ntmps28
    go_wp2
    go_ret
    exact ⟨ret_int (by unfold Pl.szd; rw [if_neg (by omega)]), rfl⟩
set_option maxHeartbeats 1000000 in
theorem heldIntS_same (A : Option Addr) (n c lo hi : Nat) (k0 : Int) (w : World) (H : Ints w lo hi (.slice A n c) (Pl.marks k0 n)) (h0 : 0 ≤ k0) (h1 : k0 + n ≤ 4611686018427387904) :
    Calls Try.prog 47 #[.slice A n c, .int .i64 k0] w fun e w' => e = .returned (.int .i64 (k0 + n)) ∧ w = w' := by
  have G := Lib.hid H
  clear H
  go_enter Try.func47, Try.ntmps47
  go_wp2_with fail
  go_loop [1, 5] (fun q i => ∃ k : Nat, k ≤ n ∧ i = .int .i64 k ∧ q = .int .i64 (k0 + k)) (fun _ i => n - (intOf i).toNat)
  case atStart => exact ⟨0, Nat.zero_le _, rfl, by simp⟩
  case round =>
    obtain ⟨k, hk, rfl, rfl⟩ := hrel
    by_cases hlt : k < n
    · obtain ⟨g, z, rfl, _, _, e1, cc, _⟩ := G.out.at_ hlt
      rw [Pl.marks_get hlt] at e1
      injection e1 with e1
      subst e1
      go_wp2_with fail
      go_round
      case rel => exact ⟨k + 1, by omega, by go_num, by simp; omega⟩
      case measure => simp [intOf]; omega
    · obtain rfl : k = n := by omega
      go_wp2_with fail
      go_ret
      exact ⟨rfl, rfl⟩
set_option maxHeartbeats 1000000 in
theorem markIntS_any (A : Option Addr) (n c lo hi : Nat) (zs : List Int) (k0 : Int) (w : World) (H : Ints w lo hi (.slice A n c) zs) (h0 : 0 ≤ k0) (h1 : k0 + n ≤ 4611686018427387904) :
    Calls Try.prog 36 #[.slice A n c, .int .i64 k0] w fun e w' => e = .returned (.int .i64 (k0 + n)) ∧ Ints w' lo hi (.slice A n c) (Pl.marks k0 n) ∧ Out lo hi w w' ∧ w'.heap.size = w.heap.size := by
  have L := Lib.hid H.len_eq
  have G := Lib.hid H
  clear H
  go_enter Try.func36, Try.ntmps36
  go_wp2_with fail
  go_loopw [1, 5] (fun q i wr => ∃ k : Nat, k ≤ n ∧ i = .int .i64 k ∧ q = .int .i64 (k0 + k) ∧ Hid (Ints wr lo hi (.slice A n c) (Pl.marks k0 k ++ zs.drop k)) ∧ Out lo hi w wr ∧ Hid (wr.heap.size = w.heap.size)) (fun _ i _ => n - (intOf i).toNat)
  case atStart => exact ⟨0, Nat.zero_le _, rfl, by simp, by simpa [Pl.marks] using G, Out.refl _ _ _, rfl⟩
  case round =>
    obtain ⟨k, hk, rfl, rfl, GR, ho, hsz⟩ := hrel
    by_cases hlt : k < n
    · obtain ⟨g, z, rfl, lg, hg, e1, cc, cf⟩ := GR.out.at_ hlt
      clear e1
      go_wp2_with fail
      go_roundw
      case rel => exact ⟨k + 1, by omega, by go_num, by simp; omega, by have := GR.out.stored k (k0 + k); rwa [Pl.marks_set _ _ _ (by rw [L.out]; omega)] at this, ho.setCell lg hg _, by show _ = _; have := hsz.out; simpa [World.setCell] using this⟩
      case measure => simp [intOf]; omega
    · obtain rfl : k = n := by omega
      go_wp2_with fail
      go_ret
      exact ⟨rfl, by have := GR.out; rwa [List.drop_of_length_le (by rw [L.out]; exact Nat.le_refl _), List.append_nil] at this, ho, hsz.out⟩
theorem Try.infoInt : (Try.prog.info? 3).map (fun i => (i.zero, i.size, i.bytes)) = some (some (.int .i64 0), 1, 8) := by kernel_rfl
/-- A new slice of integers. -/
def NewInts (zs : List Int) (w : World) (e : Ending) (w' : World) : Prop := ∃ A c, e = .returned (.slice A zs.length c) ∧ Ints w' w.heap.size w'.heap.size (.slice A zs.length c) zs ∧ Below w.heap.size w w'
set_option maxHeartbeats 1000000 in
theorem toIntS_any (A : Option Addr) (n c : Nat) (zs : List Int) (w : World) (H : Arg .i64 w A zs) (hn : zs.length = n) (hb : n ≤ 1048576) :
    Calls Try.prog 31 #[.slice A n c] w (NewInts zs w) := by
  have HN := Lib.hid hn
  have G := Lib.hid H
  clear H hn
  obtain ⟨i0, hi, hz0, hz1, hz2⟩ := info_parts Try.infoInt
  go_enter Try.func31, Try.ntmps31
  go_wp2_with (at_make; refine wpList_make_full _ rfl _ _ 22 rfl w.heap.size 3 i0 (.int .i64 0) 1 Try.underlying22 hi hz0 hz1 _ _ _ _ n rfl rfl rfl rfl (by rw [hz2]; omega) (by unfold maxLen; omega) (Nat.le_refl _) ?_)
  intro w1 hown hgrow
  have O1 : Hid (Ints w1 w.heap.size w1.heap.size (.slice (some ⟨w.heap.size, 0, none⟩) n n) (zs.take 0 ++ List.replicate (n - 0) 0)) := by
    have := Own.of_row hown
    rw [toList_madeCells_one] at this
    show Own _ _ _ _ _ _ _ _
    simpa using this
  have B1 : Below w.heap.size w w1 := (Below.refl _ _).grown hgrow (Nat.le_refl _) (by simp)
  clear hown hgrow hi hz0 hz1 hz2
  go_wp2_with fail
  go_loopw [4] (fun i wr => ∃ k : Nat, k ≤ n ∧ i = .int .i64 k ∧ Hid (Ints wr w.heap.size w1.heap.size (.slice (some ⟨w.heap.size, 0, none⟩) n n) (zs.take k ++ List.replicate (n - k) 0)) ∧ Below w.heap.size w wr ∧ Hid (wr.heap.size = w1.heap.size)) (fun i _ => n - (intOf i).toNat)
  case atStart => exact ⟨0, Nat.zero_le _, rfl, O1, B1, rfl⟩
  case round =>
    obtain ⟨k, hk, rfl, GR, hB, hsz⟩ := hrel
    by_cases hlt : k < n
    · obtain ⟨b, off, rfl, hbl, hc⟩ := G.out (by rw [HN.out]; omega)
      obtain ⟨z, hz⟩ : ∃ z, zs[k]? = some z := ⟨_, List.getElem?_eq_getElem (by rw [HN.out]; exact hlt)⟩
      have cz : wr.cell? ⟨b, off + k, none⟩ = some (.int .i64 z) := (hB.cell (p := ⟨b, off + k, none⟩) hbl).trans (hc k z hz)
      have HZ := Lib.hid hz
      clear hc hz
      obtain ⟨g, z', eg, lg, hg, e1, cc, cf⟩ := GR.out.at_ hlt
      injection eg with eg
      injection eg with eg
      subst eg
      clear e1
      go_wp2_with fail
      go_roundw
      case rel => exact ⟨k + 1, by omega, by go_num, by have := GR.out.stored k z; rwa [Pl.copy_set HZ.out HN.out] at this, hB.setCell (Nat.le_refl _) _, by show _ = _; have := hsz.out; simpa [World.setCell] using this⟩
      case measure => simp [intOf]; omega
    · obtain rfl : k = n := by omega
      go_wp2_with fail
      go_ret
      have e := HN.out
      subst e
      refine ⟨_, _, rfl, ?_, hB⟩
      have := GR.out
      rw [hsz.out]
      simpa using this
end Go.Proofs.Ytmjjepgnciibcaa
