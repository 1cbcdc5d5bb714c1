/- Contracts: the program's InRegion, AreaOf, BoundsOf. -/
import Derived.Test.YtmjjepgnciibcaaRegJ
namespace Go.Proofs.Ytmjjepgnciibcaa
open Go.RowKit
set_option linter.unusedVariables false
set_option linter.unusedSimpArgs false
namespace Pl
/-- InRegion. -/
def inRegion (l : List R) (x y : Int) : Bool := regionOk l && inB x 0 15 && inB y 0 15 && gridL l y.toNat x.toNat
/-- AreaOf, BoundsOf. -/
def areaOf (l : List R) : Int := if regionOk l then area l else 0
def boundsL (l : List R) : R := l.foldl bounds R.zero
def boundsOf (l : List R) : R := if regionOk l then boundsL l else R.zero
theorem area_take {l : List R} {k : Nat} {r : R} (h : l[k]? = some r) : area (l.take (k + 1)) = area (l.take k) + r.w * r.h := by rw [take_snoc h, area_append]; simp [area]
theorem boundsL_take {l : List R} {k : Nat} {r : R} (h : l[k]? = some r) : boundsL (l.take (k + 1)) = bounds (boundsL (l.take k)) r := by rw [take_snoc h]; simp [boundsL]
theorem regionOk_eq {l : List R} (h : regionOk l = true) : canon (gridL l) = l := of_decide_eq_true h
theorem ok_mem {l : List R} (h : regionOk l = true) {k : Nat} {r : R} (hr : l[k]? = some r) : r.ok = true ∧ 0 ≤ r.x ∧ 0 ≤ r.y ∧ 1 ≤ r.w ∧ 1 ≤ r.h ∧ r.x + r.w ≤ 16 ∧ r.y + r.h ≤ 16 := by
  have e := regionOk_eq h
  rw [← e] at hr
  exact canon_ok (List.mem_of_getElem? hr)
theorem ok_length {l : List R} (h : regionOk l = true) : l.length ≤ 256 := by
  have e := regionOk_eq h
  rw [← e]
  exact canon_length _
theorem area_take_bd {l : List R} (h : regionOk l = true) (k : Nat) : 0 ≤ area (l.take k) ∧ area (l.take k) ≤ 256 * k := by
  induction k with
  | zero => simp [area]
  | succ k ih =>
    by_cases hk : k < l.length
    · have hr := List.getElem?_eq_getElem hk
      obtain ⟨_, h0, h1, h2, h3, h4, h5⟩ := ok_mem h hr
      rw [area_take hr]
      have := mul_bd (a := l[k].w) (b := l[k].h) (A := 16) (B := 16) (by omega) (by omega) (by omega) (by omega)
      omega
    · rw [List.take_of_length_le (by omega)]
      rw [List.take_of_length_le (by omega)] at ih
      omega
end Pl
attribute [local irreducible] gcells
theorem index_grid (w : World) (m : Nat → Nat) (y : Nat) (hy : y < 16) : (Instr.index 60 (.agg (gcells m)) (.int .i64 (y : Int))).run Try.prog w = .ok (.int .i64 (m y)) w := by
  have u1 := Try.underlying60
  have u2 := Try.underlying3
  have a3 := Try.isAgg3
  have z3 := Try.sizeOf3
  have yp1 : (y : Int) < 16 := by omega
  have hg := gcells_get m hy
  unfold Instr.index
  go_simp
set_option maxRecDepth 100000 in
set_option maxHeartbeats 4000000 in
theorem implAreaOf (A : Option Addr) (n c : Nat) (zs : List Pl.R) (w : World) (HA : RArg w A zs) (hn : zs.length = n) (hb : n ≤ 9223372036854775807) : Calls Try.prog 27 #[.agg #[.slice A n c]] w fun e w' => e = .returned (.int .i64 (Pl.areaOf zs)) ∧ Below w.heap.size w w' := by
  have HN := Lib.hid hn
  have HL := Lib.hid HA
  clear HA hn
  go_enter Try.func27, Try.ntmps27
  go_upto_region 1 with fail
  have VZ := Lib.hid (VB.new (w := w) (b := w.heap.size) (t := 28) (cs := [.slice A n c]) rfl)
  have BZ : Hid (Below w.heap.size w (w.alloc (.cells #[.slice A n c] 28 (0, 0)))) := Lib.hid (by go_grown)
  generalize w.alloc (.cells #[.slice A n c] 28 (0, 0)) = wv at *
  obtain ⟨l1, c1, f1⟩ := VZ.out.open1
  cases hrk : Pl.regionOk zs
  · go_wp2_with (go_at_call 45; ((with_reducible refine (implRegionOk A n c zs _ (HL.out.below BZ.out) HN.out hb).mono ?_)); rw [hrk]; rintro e w9 ⟨rfl, B9⟩)
    go_ret
    exact ⟨ret_int (by simp [Pl.areaOf, hrk]), later BZ.out B9⟩
  · have hlen := Pl.ok_length hrk
    rw [HN.out] at hlen
    go_wp2_with (go_at_call 45; ((with_reducible refine (implRegionOk A n c zs _ (HL.out.below BZ.out) HN.out hb).mono ?_)); rw [hrk]; rintro e w9 ⟨rfl, B9⟩; have V9 := Lib.hid (VZ.out.step B9); have BB9 := Lib.hid (later BZ.out B9); obtain ⟨l9, c9, f9⟩ := V9.out.open1)
    go_loopw [3, 12] (fun sq sk wr => ∃ k : Nat, k ≤ n ∧ sk = .int .i64 k ∧ sq = .int .i64 (Pl.area (zs.take k)) ∧ Hid (Below w.heap.size w wr)) (fun _ sk _ => n - (intOf sk).toNat)
    case atStart => exact ⟨0, by omega, rfl, rfl, BB9⟩
    case round =>
      obtain ⟨k, hk, rfl, rfl, hB⟩ := hrel
      have kp0 : (0 : Int) ≤ (k : Int) := Int.natCast_nonneg _
      by_cases hlt : k < n
      · have kp1 : (k : Int) < n := by omega
        obtain ⟨g1, o1, z, rfl, lg, hz, p0, p1, p2, p3⟩ := (HL.out.below hB.out).at_ HN.out hlt
        obtain ⟨_, z0, z1, z2, z3, z4, z5⟩ := Pl.ok_mem hrk hz
        have hbd := Pl.area_take_bd hrk k
        have HT := Lib.hid (Pl.area_take hz)
        have hm := Pl.mul_bd (a := z.w) (b := z.h) (A := 16) (B := 16) (by omega) (by omega) (by omega) (by omega)
        clear hz
        go_wp2_with fail
        go_roundw
        case rel => exact ⟨k + 1, by omega, by go_num, by rw [HT.out], Lib.hid (hB.out.alloc hB.out.size _)⟩
        case measure => simp [intOf]; omega
      · obtain rfl : k = n := by omega
        have e : zs.take k = zs := List.take_of_length_le (by rw [HN.out]; exact Nat.le_refl _)
        go_wp2_with fail
        go_ret
        exact ⟨ret_int (by simp [Pl.areaOf, hrk, e]), hB.out⟩
end Go.Proofs.Ytmjjepgnciibcaa
