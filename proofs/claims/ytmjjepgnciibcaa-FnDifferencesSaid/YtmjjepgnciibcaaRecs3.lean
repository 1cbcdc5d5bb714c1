/- Contracts of the laws' functions over slices of rectangles and regions: copy, mark, look again. -/
import Derived.Test.YtmjjepgnciibcaaRecs2
namespace Go.Proofs.Ytmjjepgnciibcaa
open Go.RowKit
set_option linter.unusedVariables false
set_option linter.unusedSimpArgs false
namespace Pl
def rmarks (k : Int) (n : Nat) : List R := (List.range n).map fun (i : Nat) => ⟨k + 4 * i, k + 4 * i + 1, k + 4 * i + 2, k + 4 * i + 3⟩
theorem rmarks_length (k : Int) (n : Nat) : (rmarks k n).length = n := by simp [rmarks]
theorem rmarks_get {k : Int} {n i : Nat} (h : i < n) : (rmarks k n)[i]? = some ⟨k + 4 * i, k + 4 * i + 1, k + 4 * i + 2, k + 4 * i + 3⟩ := by simp [rmarks, h]
theorem rmarks_set (k : Int) (i : Nat) (zs : List R) (h : i < zs.length) : (rmarks k i ++ zs.drop i).set i ⟨k + 4 * i, k + 4 * i + 1, k + 4 * i + 2, k + 4 * i + 3⟩ = rmarks k (i + 1) ++ zs.drop (i + 1) := by
  rw [List.set_append_right _ _ (by rw [rmarks_length]; exact Nat.le_refl _), rmarks_length, Nat.sub_self, List.drop_eq_getElem_cons h, List.set_cons_zero]
  simp [rmarks, List.range_succ]
theorem rcopy_set {zs : List R} {i n : Nat} {z : R} (h : zs[i]? = some z) (hn : zs.length = n) : (zs.take i ++ List.replicate (n - i) R.zero).set i z = zs.take (i + 1) ++ List.replicate (n - (i + 1)) R.zero := by
  have hi := (List.getElem?_eq_some_iff.1 h).1
  have e : (zs.take i).length = i := by simp; omega
  rw [List.set_append_right _ _ (by omega), e, Nat.sub_self, show n - i = (n - (i + 1)) + 1 by omega, List.replicate_succ, List.set_cons_zero, take_snoc h]
  simp
end Pl
theorem rcells_replicate (n : Nat) : rcells (List.replicate n Pl.R.zero) = List.replicate (n * 4) (.int .i64 0) := by
  induction n with
  | zero => rfl
  | succ n ih => rw [List.replicate_succ, rcells_cons, ih, Nat.succ_mul]; rfl
theorem madeCells_zero4 (n : Nat) : (madeCells #[Value.int .i64 0, .int .i64 0, .int .i64 0, .int .i64 0] n).toList = List.replicate n (.int .i64 0) := by
  have h : ∀ j : Nat, (#[Value.int .i64 0, .int .i64 0, .int .i64 0, .int .i64 0] : Array Value)[j % 4]! = .int .i64 0 := by
    intro j
    have : j % 4 = 0 ∨ j % 4 = 1 ∨ j % 4 = 2 ∨ j % 4 = 3 := by omega
    rcases this with e | e | e | e <;> rw [e] <;> rfl
  simp only [madeCells, Array.toList_map, Array.toList_range]
  rw [List.eq_replicate_iff]
  refine ⟨by simp, fun v hv => ?_⟩
  obtain ⟨j, _, rfl⟩ := List.mem_map.1 hv
  exact h j
/-- A new slice of rectangles. -/
def NewRecs (rs : List Pl.R) (w : World) (e : Ending) (w' : World) : Prop := ∃ A c, e = .returned (.slice A rs.length c) ∧ Recs w' w.heap.size w'.heap.size (.slice A rs.length c) rs ∧ Below w.heap.size w w'
/-- A new region. -/
def NewReg (rs : List Pl.R) (w : World) (e : Ending) (w' : World) : Prop := ∃ A c, e = .returned (.agg #[.slice A rs.length c]) ∧ Recs w' w.heap.size w'.heap.size (.slice A rs.length c) rs ∧ Below w.heap.size w w'
theorem NewReg.later {rs : List Pl.R} {w w0 : World} {e : Ending} {w' : World} (h : NewReg rs w e w') (hb : Below w0.heap.size w0 w) : NewReg rs w0 e w' := by
  obtain ⟨A, c, h1, h2, h3⟩ := h
  exact ⟨A, c, h1, Recs.mono h2 hb.size (Nat.le_refl _) (Nat.le_refl _), hb.trans (h3.mono hb.size)⟩
theorem NewRecs.later {rs : List Pl.R} {w w0 : World} {e : Ending} {w' : World} (h : NewRecs rs w e w') (hb : Below w0.heap.size w0 w) : NewRecs rs w0 e w' := by
  obtain ⟨A, c, h1, h2, h3⟩ := h
  exact ⟨A, c, h1, Recs.mono h2 hb.size (Nat.le_refl _) (Nat.le_refl _), hb.trans (h3.mono hb.size)⟩
theorem Try.infoRect : (Try.prog.info? 50).map (fun i => (i.zero, i.size, i.bytes)) = some (some (.agg #[.int .i64 0, .int .i64 0, .int .i64 0, .int .i64 0]), 4, 32) := by kernel_rfl
set_option maxHeartbeats 1000000 in
theorem toRectS_any (A : Option Addr) (n c : Nat) (zs : List Pl.R) (w : World) (H : RArg w A zs) (hn : zs.length = n) (hb : n ≤ 1048576) :
    Calls Try.prog 43 #[.slice A n c] w (NewRecs zs w) := by
  have HN := Lib.hid hn
  have G := Lib.hid H
  clear H hn
  obtain ⟨i0, hi, hz0, hz1, hz2⟩ := info_parts Try.infoRect
  go_enter Try.func43, Try.ntmps43
  go_wp2_with (at_make; refine wpList_make_full _ rfl _ _ 26 rfl w.heap.size 50 i0 (.agg #[.int .i64 0, .int .i64 0, .int .i64 0, .int .i64 0]) 4 Try.underlying26 hi hz0 hz1 _ _ _ _ n rfl rfl rfl rfl (by rw [hz2]; omega) (by unfold maxLen; omega) (Nat.le_refl _) ?_)
  intro w1 hown hgrow
  have O1 : Hid (Recs w1 w.heap.size w1.heap.size (.slice (some ⟨w.heap.size, 0, none⟩) n n) (zs.take 0 ++ List.replicate (n - 0) Pl.R.zero)) := by
    have := Own.of_row hown
    rw [madeCells_zero4] at this
    show Own _ _ _ _ _ _ _ _
    simpa [rcells_replicate] using this
  have B1 : Below w.heap.size w w1 := (Below.refl _ _).grown hgrow (Nat.le_refl _) (by simp)
  clear hown hgrow hi hz0 hz1 hz2
  go_wp2_with fail
  go_loopw [4] (fun i wr => ∃ k : Nat, k ≤ n ∧ i = .int .i64 k ∧ Hid (Recs wr w.heap.size w1.heap.size (.slice (some ⟨w.heap.size, 0, none⟩) n n) (zs.take k ++ List.replicate (n - k) Pl.R.zero)) ∧ Hid (Below w.heap.size w wr)) (fun i _ => n - (intOf i).toNat)
  case atStart => exact ⟨0, Nat.zero_le _, rfl, O1, Lib.hid B1⟩
  case round =>
    obtain ⟨k, hk, rfl, GR, hB⟩ := hrel
    by_cases hlt : k < n
    · obtain ⟨b, off, z, rfl, hbl, hz, p0, p1, p2, p3⟩ := (G.out.below hB.out).at_ HN.out hlt
      have HZ := Lib.hid hz
      clear hz
      go_wp2_with (go_at_call 67; ((with_reducible refine (toRect_any z.x z.y z.w z.h _).mono ?_)); rintro e w9 ⟨rfl, B9⟩; have GR9 := Lib.hid (GR.out.step B9); have hB9 := Lib.hid (later hB.out B9); have hsz9 := B9.size; obtain ⟨g, z', eg, lg, hg, gh, e1, cc0, cc1, cc2, cc3, cf⟩ := GR9.out.at_ hlt; injection eg with eg; injection eg with eg; subst eg; have cf0 := cf (k * 4); have cf1 := cf (k * 4 + 1); have cf2 := cf (k * 4 + 2); have cf3 := cf (k * 4 + 3); clear e1 cf B9)
      go_roundw
      case rel => exact ⟨k + 1, by omega, by go_num, Lib.hid (by have := GR9.out.stored k z hlt; rwa [Pl.rcopy_set HZ.out HN.out] at this), Lib.hid ((((hB9.out.setCell (Nat.le_refl _) _).setCell (Nat.le_refl _) _).setCell (Nat.le_refl _) _).setCell (Nat.le_refl _) _)⟩
      case measure => simp [intOf]; omega
    · obtain rfl : k = n := by omega
      go_wp2_with fail
      go_ret
      have e := HN.out
      subst e
      refine ⟨_, _, rfl, ?_, hB.out⟩
      have := GR.out
      have := this.mono (Nat.le_refl _) this.hi_le (Nat.le_refl _)
      simpa using this
set_option maxHeartbeats 1000000 in
theorem markRectS_any (A : Option Addr) (n c lo hi : Nat) (zs : List Pl.R) (k0 : Int) (w : World) (H : Recs w lo hi (.slice A n c) zs) (h0 : 0 ≤ k0) (h1 : k0 + 4 * n ≤ 4611686018427387904) :
    Calls Try.prog 37 #[.slice A n c, .int .i64 k0] w fun e w' => e = .returned (.int .i64 (k0 + 4 * n)) ∧ Recs w' lo hi (.slice A n c) (Pl.rmarks k0 n) ∧ Out lo hi w w' ∧ w'.heap.size = w.heap.size := by
  have L := Lib.hid H.len_eq
  have G := Lib.hid H
  clear H
  go_enter Try.func37, Try.ntmps37
  go_wp2_with fail
  go_loopw [1, 5] (fun q i wr => ∃ k : Nat, k ≤ n ∧ i = .int .i64 k ∧ q = .int .i64 (k0 + 4 * k) ∧ Hid (Recs wr lo hi (.slice A n c) (Pl.rmarks k0 k ++ zs.drop k)) ∧ Hid (Out lo hi w wr) ∧ Hid (wr.heap.size = w.heap.size)) (fun _ i _ => n - (intOf i).toNat)
  case atStart => exact ⟨0, Nat.zero_le _, rfl, by simp, by simpa [Pl.rmarks] using G, Lib.hid (Out.refl _ _ _), Lib.hid rfl⟩
  case round =>
    obtain ⟨k, hk, rfl, rfl, GR, ho, hsz⟩ := hrel
    by_cases hlt : k < n
    · obtain ⟨g, z, rfl, lg, hg, gh, e1, cc0, cc1, cc2, cc3, cf⟩ := GR.out.at_ hlt
      have cf0 := cf (k * 4)
      have cf1 := cf (k * 4 + 1)
      have cf2 := cf (k * 4 + 2)
      have cf3 := cf (k * 4 + 3)
      clear e1 cf
      go_wp2_with fail
      go_roundw
      case rel =>
        refine ⟨k + 1, by omega, by go_num, by simp; omega, Lib.hid ?_, Lib.hid ((((ho.out.setCell lg hg _).setCell lg hg _).setCell lg hg _).setCell lg hg _), Lib.hid (by have := hsz.out; simpa [World.setCell] using this)⟩
        have := GR.out.stored k ⟨k0 + 4 * k, k0 + 4 * k + 1, k0 + 4 * k + 2, k0 + 4 * k + 3⟩ hlt
        rw [Pl.rmarks_set _ _ _ (by rw [L.out]; omega)] at this
        have e2 : k0 + 4 * (k : Int) + 1 + 1 = k0 + 4 * k + 2 := by omega
        have e3 : k0 + 4 * (k : Int) + 2 + 1 = k0 + 4 * k + 3 := by omega
        simpa only [e2, e3] using this
      case measure => simp [intOf]; omega
    · obtain rfl : k = n := by omega
      go_wp2_with fail
      go_ret
      exact ⟨rfl, by have := GR.out; rwa [List.drop_of_length_le (by rw [L.out]; exact Nat.le_refl _), List.append_nil] at this, ho.out, hsz.out⟩
set_option maxHeartbeats 1000000 in
theorem heldRectS_same (A : Option Addr) (n c : Nat) (k0 : Int) (w : World) (H : RArg w A (Pl.rmarks k0 n)) (h0 : 0 ≤ k0) (h1 : k0 + 4 * n ≤ 4611686018427387904) :
    Calls Try.prog 38 #[.slice A n c, .int .i64 k0] w fun e w' => e = .returned (.int .i64 (k0 + 4 * n)) ∧ w = w' := by
  have G := Lib.hid H
  clear H
  go_enter Try.func38, Try.ntmps38
  go_wp2_with fail
  go_loop [1, 5] (fun q i => ∃ k : Nat, k ≤ n ∧ i = .int .i64 k ∧ q = .int .i64 (k0 + 4 * k)) (fun _ i => n - (intOf i).toNat)
  case atStart => exact ⟨0, Nat.zero_le _, rfl, by simp⟩
  case round =>
    obtain ⟨k, hk, rfl, rfl⟩ := hrel
    by_cases hlt : k < n
    · obtain ⟨b, off, z, rfl, hbl, hz, p0, p1, p2, p3⟩ := G.out.at_ (Pl.rmarks_length _ _) hlt
      rw [Pl.rmarks_get hlt] at hz
      injection hz with hz
      subst hz
      simp only at p0 p1 p2 p3
      have e2 : k0 + 4 * (k : Int) + 1 + 1 = k0 + 4 * k + 2 := by omega
      have e3 : k0 + 4 * (k : Int) + 2 + 1 = k0 + 4 * k + 3 := by omega
      go_wp2_with fail
      go_round
      case rel => exact ⟨k + 1, by omega, by go_num, by simp; omega⟩
      case measure => simp [intOf]; omega
    · obtain rfl : k = n := by omega
      go_wp2_with fail
      go_ret
      exact ⟨rfl, rfl⟩
theorem szRegion_any (A : Option Addr) (n c : Nat) (left : Int) (w : World) (h0 : 0 ≤ left) (h1 : left ≤ 1048576) (hn : n ≤ 9223372036854775807) : Calls Try.prog 15 #[.agg #[.slice A n c], .int .i64 left] w fun e w' => e = .returned (.int .i64 (Pl.szd left n)) ∧ Below w.heap.size w w' := by
  by_cases h : left < n
  · have hs : Pl.szd left n = -1 := by unfold Pl.szd; rw [if_pos h]
    have HS := Lib.hid hs
    clear hs
    go_enter Try.func15, Try.ntmps15
    go_wp2_with fail
    refine (szRectS_any _ _ _ _ _ h0 h1 hn).mono ?_
    rintro e w' ⟨rfl, rfl⟩
    rw [HS.out]
    go_wp2
    go_ret
    exact ⟨ret_int HS.out.symm, by go_grown⟩
  · have hs : 0 ≤ Pl.szd left n := by unfold Pl.szd; rw [if_neg h]; omega
    go_enter Try.func15, Try.ntmps15
    go_wp2_with fail
    refine (szRectS_any _ _ _ _ _ h0 h1 hn).mono ?_
    rintro e w' ⟨rfl, rfl⟩
    go_wp2
    go_ret
    exact ⟨rfl, by go_grown⟩
set_option maxHeartbeats 1000000 in
theorem toRegion_any (A : Option Addr) (n c : Nat) (zs : List Pl.R) (w : World) (HA : RArg w A zs) (hn : zs.length = n) (hb : n ≤ 1048576) :
    Calls Try.prog 17 #[.agg #[.slice A n c]] w (NewReg zs w) := by
  have HN := Lib.hid hn
  have G := Lib.hid HA
  clear hn HA
  go_enter Try.func17, Try.ntmps17
  go_wp2_with fail
  refine (toRectS_any _ _ _ zs _ (G.out.below (by go_grown)) HN.out hb).mono ?_
  rintro e w1 ⟨A1, c1, rfl, O1, hb1⟩
  have ⟨k0, f0, y0⟩ := keep3 hb1 w.heap.size (by simp; omega)
  have ⟨k1, f1, y1⟩ := keep3 hb1 (w.heap.size + 1) (by simp)
  have ⟨k2, f2, y2⟩ := keep3 hb1 (w.heap.size + 1 + 1) (by simp)
  have B1 : Below w.heap.size w w1 := later (by go_grown) hb1
  have O2 := Lib.hid O1
  clear O1
  go_wp2_with fail
  refine bodyPost_ret (v := .agg #[.slice A1 zs.length c1]) (by simp [results, Try.results17, go_sem, k1]) rfl ⟨A1, c1, rfl, ?_, by go_grown⟩
  have := O2.out
  refine Own.mono (Own.far (Own.far this ?_ _) ?_ _) ?_ ?_ ?_
  all_goals (simp; try omega)
theorem eqRegion_any (A1 A2 : Option Addr) (n m c1 c2 : Nat) (zs ys : List Pl.R) (w : World) (H1 : RArg w A1 zs) (H2 : RArg w A2 ys) (L1 : zs.length = n) (L2 : ys.length = m) (b1 : n ≤ 9223372036854775807) (b2 : m ≤ 9223372036854775807) :
    Calls Try.prog 10 #[.agg #[.slice A1 n c1], .agg #[.slice A2 m c2]] w fun e w' => e = .returned (.bool (decide (zs = ys))) ∧ Below w.heap.size w w' := by
  go_enter Try.func10, Try.ntmps10
  cases hd : decide (zs = ys)
  all_goals
    go_wp2_with fail
    refine (eqRectS_any _ _ _ _ _ _ zs ys _ (H1.below (by go_grown)) (H2.below (by go_grown)) L1 L2 b1 b2).mono ?_
    rw [hd]
    rintro e w1 ⟨rfl, hb1⟩
    have B1 : Below w.heap.size w w1 := later (by go_grown) hb1
    go_wp2_with fail
    go_ret
    exact ⟨rfl, B1⟩
theorem markRegion_any (A : Option Addr) (n c lo hi : Nat) (zs : List Pl.R) (k0 : Int) (w : World) (H : Recs w lo hi (.slice A n c) zs) (h0 : 0 ≤ k0) (h1 : k0 + 4 * n ≤ 4611686018427387904) :
    Calls Try.prog 13 #[.agg #[.slice A n c], .int .i64 k0] w fun e w' => e = .returned (.int .i64 (k0 + 4 * n)) ∧ Recs w' lo hi (.slice A n c) (Pl.rmarks k0 n) ∧ Out lo hi w w' := by
  go_enter Try.func13, Try.ntmps13
  go_wp2_with fail
  refine (markRectS_any _ _ _ lo hi zs _ _ (H.step (by go_grown)) h0 h1).mono ?_
  rintro e w1 ⟨rfl, O1, ho, _⟩
  go_wp2_with fail
  go_ret
  exact ⟨rfl, O1, (Out.of_below (by go_grown) _ _).trans ho⟩
theorem heldRegion_same (A : Option Addr) (n c : Nat) (k0 : Int) (w : World) (H : RArg w A (Pl.rmarks k0 n)) (h0 : 0 ≤ k0) (h1 : k0 + 4 * n ≤ 4611686018427387904) :
    Calls Try.prog 14 #[.agg #[.slice A n c], .int .i64 k0] w fun e w' => e = .returned (.int .i64 (k0 + 4 * n)) ∧ Below w.heap.size w w' := by
  go_enter Try.func14, Try.ntmps14
  go_wp2_with fail
  refine (heldRectS_same _ _ _ _ _ (H.below (by go_grown)) h0 h1).mono ?_
  rintro e w1 ⟨rfl, rfl⟩
  go_wp2_with fail
  go_ret
  exact ⟨rfl, by go_grown⟩
end Go.Proofs.Ytmjjepgnciibcaa
