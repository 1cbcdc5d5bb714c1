/- Plain laws of regions: sets of points, and their forms. No program in sight. -/
import Derived.Test.YtmjjepgnciibcaaRegK
namespace Go.Proofs.Ytmjjepgnciibcaa.Pl
theorem areaOf_canon (G : Nat → Nat → Bool) : areaOf (canon G) = (total G 0 : Int) := by
  unfold areaOf
  rw [if_pos (regionOk_canon G), area_canon]
theorem areaOf_ok {a : List R} (h : regionOk a = true) : areaOf a = (total (gridL a) 0 : Int) := by
  have := areaOf_canon (gridL a)
  rwa [regionOk_eq h] at this
theorem unionOf_ok {a b : List R} (ha : regionOk a = true) (hb : regionOk b = true) : unionOf a b = canon (fun y x => gridL a y x || gridL b y x) := by simp [unionOf, ha, hb]
theorem commonOf_ok {a b : List R} (ha : regionOk a = true) (hb : regionOk b = true) : commonOf a b = canon (fun y x => gridL a y x && gridL b y x) := by simp [commonOf, ha, hb]
theorem withoutOf_ok {a b : List R} (ha : regionOk a = true) (hb : regionOk b = true) : withoutOf a b = canon (fun y x => gridL a y x && !gridL b y x) := by simp [withoutOf, ha, hb]
theorem area_union {a b : List R} (ha : regionOk a = true) (hb : regionOk b = true) : areaOf (unionOf a b) + areaOf (commonOf a b) = areaOf a + areaOf b := by
  rw [unionOf_ok ha hb, commonOf_ok ha hb, areaOf_canon, areaOf_canon, areaOf_ok ha, areaOf_ok hb]
  have := total_or_and (gridL a) (gridL b) 0
  omega
theorem area_without {a b : List R} (ha : regionOk a = true) (hb : regionOk b = true) : areaOf (withoutOf a b) + areaOf (commonOf a b) = areaOf a := by
  rw [withoutOf_ok ha hb, commonOf_ok ha hb, areaOf_canon, areaOf_canon, areaOf_ok ha]
  have := total_diff_and (gridL a) (gridL b) 0
  omega
theorem areaOf_bd (a : List R) : 0 ≤ areaOf a ∧ areaOf a ≤ 65536 := by
  unfold areaOf
  split
  · rename_i h
    have h1 := area_take_bd h a.length
    rw [List.take_length] at h1
    have := ok_length h
    omega
  · omega
theorem inRegion_ok {a : List R} (h : regionOk a = true) {i j : Nat} (hi : i < 16) (hj : j < 16) : inRegion a (i : Int) (j : Int) = gridL a j i := by
  simp [inRegion, h, inB]
  omega
theorem inRegion_canon (G : Nat → Nat → Bool) {i j : Nat} (hi : i < 16) (hj : j < 16) : inRegion (canon G) (i : Int) (j : Int) = G j i := by
  rw [inRegion_ok (regionOk_canon G) hi hj, gridL_canon G j hj i hi]
theorem in_union {a b : List R} (ha : regionOk a = true) (hb : regionOk b = true) {i j : Nat} (hi : i < 16) (hj : j < 16) : inRegion (unionOf a b) (i : Int) (j : Int) = (inRegion a (i : Int) (j : Int) || inRegion b (i : Int) (j : Int)) := by
  rw [unionOf_ok ha hb, inRegion_canon _ hi hj, inRegion_ok ha hi hj, inRegion_ok hb hi hj]
theorem in_common {a b : List R} (ha : regionOk a = true) (hb : regionOk b = true) {i j : Nat} (hi : i < 16) (hj : j < 16) : inRegion (commonOf a b) (i : Int) (j : Int) = (inRegion a (i : Int) (j : Int) && inRegion b (i : Int) (j : Int)) := by
  rw [commonOf_ok ha hb, inRegion_canon _ hi hj, inRegion_ok ha hi hj, inRegion_ok hb hi hj]
theorem in_without {a b : List R} (ha : regionOk a = true) (hb : regionOk b = true) {i j : Nat} (hi : i < 16) (hj : j < 16) : inRegion (withoutOf a b) (i : Int) (j : Int) = (inRegion a (i : Int) (j : Int) && !inRegion b (i : Int) (j : Int)) := by
  rw [withoutOf_ok ha hb, inRegion_canon _ hi hj, inRegion_ok ha hi hj, inRegion_ok hb hi hj]
theorem first_in {a : List R} (h : regionOk a = true) {r : R} (hr : a[0]? = some r) : inRegion a r.x r.y = true := by
  have hm : r ∈ canon (gridL a) := by rw [regionOk_eq h]; exact List.mem_of_getElem? hr
  obtain ⟨x, y, n, k, rfl, _, h1, h2, h3, h4, h5⟩ := canonFrom_mem hm
  rw [inRegion_ok h (by omega) (by omega)]
  exact h5 y x (Nat.le_refl _) (by omega) (Nat.le_refl _) (by omega)
theorem regionOf_ok (L : List R) : regionOk (regionOf L) = true := regionOk_canon _
theorem unionOf_length (a b : List R) : (unionOf a b).length ≤ 256 := by unfold unionOf; split <;> first | exact canon_length _ | simp
theorem commonOf_length (a b : List R) : (commonOf a b).length ≤ 256 := by unfold commonOf; split <;> first | exact canon_length _ | simp
theorem withoutOf_length (a b : List R) : (withoutOf a b).length ≤ 256 := by unfold withoutOf; split <;> first | exact canon_length _ | simp
end Go.Proofs.Ytmjjepgnciibcaa.Pl
