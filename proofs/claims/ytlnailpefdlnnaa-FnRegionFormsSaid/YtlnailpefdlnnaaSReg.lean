/- Contracts: the reference's RegionOf, RegionOk, UnionOf, CommonOf, WithoutOf, InRegion, AreaOf, BoundsOf. -/
import Derived.Test.YtlnailpefdlnnaaSGrid
import Derived.Test.YtlnailpefdlnnaaSCanon
import Derived.Test.YtlnailpefdlnnaaRegK
namespace Go.Proofs.Ytlnailpefdlnnaa
open Go.RowKit
set_option linter.unusedVariables false
set_option linter.unusedSimpArgs false
theorem Pl.flat_set1 (H : Nat → Nat → Bool) {k : Nat} (hk : k < 256) (v : Bool) : (Pl.flat H).set k v = Pl.flat (fun j i => if j * 16 + i = k then v else H j i) := by
  have := Pl.flat_set H (y := k / 16) (x := k % 16) (by omega) (by omega) v
  rw [show k / 16 * 16 + k % 16 = k by omega] at this
  rw [this]
  refine Pl.flat_congr fun j hj i hi => ?_
  by_cases e : j * 16 + i = k
  · rw [if_pos (by omega), if_pos e]
  · rw [if_neg (by omega), if_neg e]
set_option maxHeartbeats 4000000 in
theorem specRegionOf (A : Option Addr) (n c : Nat) (zs : List Pl.R) (w : World) (HA : RArg w A zs) (hn : zs.length = n) (hb : n ≤ 9223372036854775807) : Calls Try.prog 19 #[.slice A n c] w (NewReg (Pl.regionOf zs) w) := by
  have HN := Lib.hid hn
  have HL := Lib.hid HA
  clear HA hn
  go_enter Try.func19, Try.ntmps19
  go_upto_region 1 with fail
  have VR := Lib.hid (VB.new (w := w) (b := w.heap.size) (t := 29) (cs := [.slice none 0 0]) rfl)
  have BZ : Hid (Below w.heap.size w (w.alloc (.cells #[.slice none 0 0] 29 (0, 0)))) := Lib.hid (by go_grown)
  generalize w.alloc (.cells #[.slice none 0 0] 29 (0, 0)) = wv at *
  go_wp2_with (first
    | (go_at_call 47; ((with_reducible refine (l03Grid_any A n c zs _ (HL.out.below BZ.out) HN.out hb).mono ?_)); rintro e w9 ⟨A9, c9, rfl, O9, B9⟩; have I9 := Lib.hid O9; have VR9 := Lib.hid (VR.out.step B9); have BB9 := Lib.hid (later BZ.out B9); clear O9 B9)
    | (go_at_call 46; ((with_reducible refine (l03Canon_any A9 c9 _ _ (Pl.gridL zs) _ I9.out).mono ?_)); rintro e w8 ⟨A8, c8, rfl, O8, B8⟩; have I8 := Lib.hid O8; have VR8 := Lib.hid (VR9.out.step B8); have BB8 := Lib.hid (later BB9.out B8); obtain ⟨l8, r8, f8⟩ := VR8.out.open1; have ls := VR9.out.lt; clear O8 B8))
  refine bodyPost_ret (v := .agg #[.slice A8 (Pl.canon (Pl.gridL zs)).length c8]) (by simp [results, Try.results19, go_sem, r8]) rfl ⟨A8, c8, rfl, ?_, BB8.out.setCell (Nat.le_refl _) _⟩
  have h1 := Own.far (p := ⟨w.heap.size, 0, none⟩) I8.out (by left; exact ls) (.slice A8 (Pl.canon (Pl.gridL zs)).length c8)
  exact Own.mono h1 BB9.out.size (by simp [World.setCell]) (Nat.le_refl _)
set_option maxHeartbeats 4000000 in
theorem specRegionOk (A : Option Addr) (n c : Nat) (zs : List Pl.R) (w : World) (HA : RArg w A zs) (hn : zs.length = n) (hb : n ≤ 9223372036854775807) : Calls Try.prog 14 #[.agg #[.slice A n c]] w fun e w' => e = .returned (.bool (Pl.regionOk zs)) ∧ Below w.heap.size w w' := by
  have HN := Lib.hid hn
  have HL := Lib.hid HA
  clear HA hn
  have h256 := Pl.regionOf_length zs
  go_enter Try.func14, Try.ntmps14
  go_wp2_with fail
  have VZ := Lib.hid (VB.new (w := w) (b := w.heap.size) (t := 29) (cs := [.slice A n c]) rfl)
  have BZ : Hid (Below w.heap.size w (w.alloc (.cells #[.slice A n c] 29 (0, 0)))) := Lib.hid (by go_grown)
  generalize w.alloc (.cells #[.slice A n c] 29 (0, 0)) = wv at *
  have HF := fun w A n c => field_region w A n c
  refine regionL (S := (fun w' => VB w' w.heap.size [.slice A n c])) (L := 8) (by kernel_rfl) ?_ (fun hHeld => ?_)
  · (first | exact VB.step hHeld B9 | exact VB.drew VZ.out)
  refine takeL (i := 0) (oi := ?_) (v := ?_) ?_ (by kernel_rfl) (by kernel_rfl) (by kernel_rfl) (by kernel_rfl) ?_ (Or.inl ⟨?_, ?_⟩) (by assumption) ?_
  rotate_left 2
  · (simp only [List.getElem?_toArray, List.getElem?_cons_succ, List.getElem?_cons_zero]; rfl)
  · exact fun _ _ _ h => h
  · rfl
  · (intro w hSw; (try dsimp only at hSw); obtain ⟨lS, c0S, _⟩ := VB.open1 hSw; go_simp; (try with_reducible rfl))
  try simp only [Act.put, List.setIfInBounds_toArray, List.set_cons_zero, List.set_cons_succ]
  refine takeL (i := 1) (oi := ?_) (v := ?_) ?_ (by kernel_rfl) (by kernel_rfl) (by kernel_rfl) (by kernel_rfl) ?_ (Or.inl ⟨?_, ?_⟩) (by assumption) ?_
  rotate_left 2
  · (simp only [List.getElem?_toArray, List.getElem?_cons_succ, List.getElem?_cons_zero]; rfl)
  · exact fun _ _ _ h => h
  · rfl
  · (intro w hSw; (try dsimp only at hSw); obtain ⟨lS, c0S, _⟩ := VB.open1 hSw; go_simp; (try with_reducible rfl))
  try simp only [Act.put, List.setIfInBounds_toArray, List.set_cons_zero, List.set_cons_succ]
  refine takeL (i := 4) (oi := ?_) (v := ?_) ?_ (by kernel_rfl) (by kernel_rfl) (by kernel_rfl) (by kernel_rfl) ?_ (Or.inl ⟨?_, ?_⟩) (by assumption) ?_
  rotate_left 2
  · (simp only [List.getElem?_toArray, List.getElem?_cons_succ, List.getElem?_cons_zero]; rfl)
  · exact fun _ _ _ h => h
  · rfl
  · (intro w hSw; (try dsimp only at hSw); obtain ⟨lS, c0S, _⟩ := VB.open1 hSw; go_simp; (try with_reducible rfl))
  try simp only [Act.put, List.setIfInBounds_toArray, List.set_cons_zero, List.set_cons_succ]
  refine takeL (i := 5) (oi := ?_) (v := ?_) ?_ (by kernel_rfl) (by kernel_rfl) (by kernel_rfl) (by kernel_rfl) ?_ (Or.inl ⟨?_, ?_⟩) (by assumption) ?_
  rotate_left 2
  · (simp only [List.getElem?_toArray, List.getElem?_cons_succ, List.getElem?_cons_zero]; rfl)
  · exact fun _ _ _ h => h
  · rfl
  · (intro w hSw; (try dsimp only at hSw); obtain ⟨lS, c0S, _⟩ := VB.open1 hSw; go_simp; (try with_reducible rfl))
  try simp only [Act.put, List.setIfInBounds_toArray, List.set_cons_zero, List.set_cons_succ]
  refine readyL (rs := [2]) (by kernel_rfl) (by simp) ?_
  refine AllReadyL.cons (o := ?_) ?_ (fun K hK => ?_) AllReadyL.none_
  rotate_left
  · (simp only [List.getElem?_toArray, List.getElem?_cons_succ, List.getElem?_cons_zero]; rfl)
  go_simp
  go_at_call 19
  ((with_reducible refine (specRegionOf A n c zs _ (HL.out.below (Below.drew BZ.out)) HN.out hb).mono ?_))
  rintro e w9 ⟨A9, c9, rfl, O9, B9⟩
  have I9 := Lib.hid O9
  have BB9 := Lib.hid (later (Below.drew BZ.out) B9)
  clear O9
  refine hK.out _ _ ?_ (fun hHeld => ?_)
  · (first | exact VB.step hHeld B9 | exact VB.drew VZ.out)
  clear hK K
  try simp only [Act.put, List.setIfInBounds_toArray, List.set_cons_zero, List.set_cons_succ]
  refine takeL (i := 3) (oi := ?_) (v := ?_) ?_ (by kernel_rfl) (by kernel_rfl) (by kernel_rfl) (by kernel_rfl) ?_ (Or.inl ⟨?_, ?_⟩) (by assumption) ?_
  rotate_left 2
  · (simp only [List.getElem?_toArray, List.getElem?_cons_succ, List.getElem?_cons_zero]; rfl)
  · exact fun _ _ _ h => h
  · rfl
  · (intro w hSw; (try dsimp only at hSw); obtain ⟨lS, c0S, _⟩ := VB.open1 hSw; go_simp; (try with_reducible rfl))
  try simp only [Act.put, List.setIfInBounds_toArray, List.set_cons_zero, List.set_cons_succ]
  refine readyL (rs := [6]) (by kernel_rfl) (by simp) ?_
  refine AllReadyL.cons (o := ?_) ?_ (fun K hK => ?_) AllReadyL.none_
  rotate_left
  · (simp only [List.getElem?_toArray, List.getElem?_cons_succ, List.getElem?_cons_zero]; rfl)
  go_simp
  go_at_call 44
  ((with_reducible refine (l03Same_any A9 A (Pl.regionOf zs).length n c9 c (Pl.regionOf zs) zs _ (Recs.arg I9.out) (HL.out.below BB9.out) rfl HN.out (by omega) hb).mono ?_))
  rintro e w8 ⟨rfl, B9'⟩
  have B9 := B9'
  have B8 := later BB9.out B9'
  refine hK.out _ _ ?_ (fun hHeld => ?_)
  · (first | exact VB.step hHeld B9 | exact VB.drew VZ.out)
  clear hK K
  try simp only [Act.put, List.setIfInBounds_toArray, List.set_cons_zero, List.set_cons_succ]
  refine takeL (i := 7) (oi := ?_) (v := ?_) ?_ (by kernel_rfl) (by kernel_rfl) (by kernel_rfl) (by kernel_rfl) ?_ (Or.inl ⟨?_, ?_⟩) (by assumption) ?_
  rotate_left 2
  · (simp only [List.getElem?_toArray, List.getElem?_cons_succ, List.getElem?_cons_zero]; rfl)
  · exact fun _ _ _ h => h
  · rfl
  · (intro w hSw; (try dsimp only at hSw); obtain ⟨lS, c0S, _⟩ := VB.open1 hSw; go_simp; (try with_reducible rfl))
  try simp only [Act.put, List.setIfInBounds_toArray, List.set_cons_zero, List.set_cons_succ]
  refine doneL (by kernel_rfl) ?_ _
  go_wp2_with fail
  go_ret
  exact ⟨rfl, B8⟩
set_option maxHeartbeats 4000000 in
theorem specInRegion (A : Option Addr) (n c : Nat) (zs : List Pl.R) (x y : Int) (w : World) (HA : RArg w A zs) (hn : zs.length = n) (hb : n ≤ 9223372036854775807) : Calls Try.prog 26 #[.agg #[.slice A n c], .int .i64 x, .int .i64 y] w fun e w' => e = .returned (.bool (Pl.inRegion zs x y)) ∧ Below w.heap.size w w' := by
  have HN := Lib.hid hn
  have HL := Lib.hid HA
  clear HA hn
  go_enter Try.func26, Try.ntmps26
  go_upto_region 1 with fail
  have VZ := Lib.hid (VB.new (w := w) (b := w.heap.size) (t := 29) (cs := [.slice A n c]) rfl)
  have BZ : Hid (Below w.heap.size w (w.alloc (.cells #[.slice A n c] 29 (0, 0)))) := Lib.hid (by go_grown)
  generalize w.alloc (.cells #[.slice A n c] 29 (0, 0)) = wv at *
  obtain ⟨l1, c1, f1⟩ := VZ.out.open1
  cases hrk : Pl.regionOk zs
  · go_wp2_with (go_at_call 14; ((with_reducible refine (specRegionOk A n c zs _ (HL.out.below BZ.out) HN.out hb).mono ?_)); rw [hrk]; rintro e w9 ⟨rfl, B9⟩)
    go_ret
    exact ⟨ret_bool (by simp [Pl.inRegion, hrk]), later BZ.out B9⟩
  · cases hx : Pl.inB x 0 15
    · go_wp2_with (first
        | (go_at_call 14; ((with_reducible refine (specRegionOk A n c zs _ (HL.out.below BZ.out) HN.out hb).mono ?_)); rw [hrk]; rintro e w9 ⟨rfl, B9⟩)
        | (go_at_call 54; ((with_reducible refine (l01In_any _ _ _ _).mono ?_)); rw [hx]; rintro e w7 ⟨rfl, rfl⟩))
      go_ret
      exact ⟨ret_bool (by simp [Pl.inRegion, hx]), later BZ.out B9⟩
    · cases hy : Pl.inB y 0 15
      · go_wp2_with (first
          | (go_at_call 14; ((with_reducible refine (specRegionOk A n c zs _ (HL.out.below BZ.out) HN.out hb).mono ?_)); rw [hrk]; rintro e w9 ⟨rfl, B9⟩)
          | (go_at_call 54; ((with_reducible refine (l01In_any _ _ _ _).mono ?_)); (first | rw [hx] | rw [hy]); rintro e w7 ⟨rfl, rfl⟩))
        go_ret
        exact ⟨ret_bool (by simp [Pl.inRegion, hy]), later BZ.out B9⟩
      · obtain ⟨x0, x1⟩ := Pl.inB_t hx
        obtain ⟨y0, y1⟩ := Pl.inB_t hy
        obtain ⟨i, rfl⟩ := Int.eq_ofNat_of_zero_le x0
        obtain ⟨j, rfl⟩ := Int.eq_ofNat_of_zero_le y0
        have hi : i < 16 := by omega
        have hj : j < 16 := by omega
        have hin : Pl.inRegion zs (i : Int) (j : Int) = Pl.gridL zs j i := by simp [Pl.inRegion, hrk, hx, hy]
        have HIN := Lib.hid hin
        clear hin
        go_wp2_with (first
          | (go_at_call 14; ((with_reducible refine (specRegionOk A n c zs _ (HL.out.below BZ.out) HN.out hb).mono ?_)); rw [hrk]; rintro e w9 ⟨rfl, B9⟩; have V9 := Lib.hid (VZ.out.step B9); have BB9 := Lib.hid (later BZ.out B9); obtain ⟨l9, c9, f9⟩ := V9.out.open1; clear B9)
          | (go_at_call 54; ((with_reducible refine (l01In_any _ _ _ _).mono ?_)); (first | rw [hx] | rw [hy]); rintro e w7 ⟨rfl, rfl⟩)
          | (go_at_call 47; ((with_reducible refine (l03Grid_any A n c zs _ (HL.out.below BB9.out) HN.out hb).mono ?_)); rintro e w8 ⟨A8, c8, rfl, O8, B8⟩; have BB8 := Lib.hid (later BB9.out B8); obtain ⟨g, rfl, lg, hg, lgs, cg, _⟩ := O8.flatAt hj hi; clear O8 B8))
        go_ret
        exact ⟨ret_bool HIN.out.symm, BB8.out⟩
set_option maxHeartbeats 4000000 in
theorem specAreaOf (A : Option Addr) (n c : Nat) (zs : List Pl.R) (w : World) (HA : RArg w A zs) (hn : zs.length = n) (hb : n ≤ 9223372036854775807) : Calls Try.prog 28 #[.agg #[.slice A n c]] w fun e w' => e = .returned (.int .i64 (Pl.areaOf zs)) ∧ Below w.heap.size w w' := by
  have HN := Lib.hid hn
  have HL := Lib.hid HA
  clear HA hn
  go_enter Try.func28, Try.ntmps28
  go_upto_region 1 with fail
  have VZ := Lib.hid (VB.new (w := w) (b := w.heap.size) (t := 29) (cs := [.slice A n c]) rfl)
  have BZ : Hid (Below w.heap.size w (w.alloc (.cells #[.slice A n c] 29 (0, 0)))) := Lib.hid (by go_grown)
  generalize w.alloc (.cells #[.slice A n c] 29 (0, 0)) = wv at *
  cases hrk : Pl.regionOk zs
  · go_wp2_with fail
    go_loopw [3, 4] (fun sq sk wr => sk = .int .i64 0 ∧ sq = .int .i64 0 ∧ Hid (VB wr w.heap.size [.slice A n c]) ∧ Hid (Below w.heap.size w wr)) (fun _ _ _ => 0)
    case atStart => exact ⟨rfl, rfl, VZ, BZ⟩
    case round =>
      obtain ⟨rfl, rfl, hV, hB⟩ := hrel
      obtain ⟨l1, c1, f1⟩ := hV.out.open1
      by_cases hlt : 0 < n
      · have kp1 : (0 : Int) < n := by omega
        go_wp2_with (go_at_call 14; ((with_reducible refine (specRegionOk A n c zs _ (HL.out.below hB.out) HN.out hb).mono ?_)); rw [hrk]; rintro e w9 ⟨rfl, B9⟩)
        go_ret
        exact ⟨ret_int (by simp [Pl.areaOf, hrk]), later hB.out B9⟩
      · obtain rfl : n = 0 := by omega
        go_wp2_with fail
        go_ret
        exact ⟨ret_int (by simp [Pl.areaOf, hrk]), hB.out⟩
  · have hlen := Pl.ok_length hrk
    rw [HN.out] at hlen
    go_wp2_with fail
    go_loopw [3, 4] (fun sq sk wr => ∃ k : Nat, k ≤ n ∧ sk = .int .i64 k ∧ sq = .int .i64 (Pl.area (zs.take k)) ∧ Hid (VB wr w.heap.size [.slice A n c]) ∧ Hid (Below w.heap.size w wr)) (fun _ sk _ => n - (intOf sk).toNat)
    case atStart => exact ⟨0, by omega, rfl, rfl, VZ, BZ⟩
    case round =>
      obtain ⟨wo, rfl⟩ : ∃ wo : World, wo = wr := ⟨_, rfl⟩
      obtain ⟨k, hk, rfl, rfl, hV, hB⟩ := hrel
      have kp0 : (0 : Int) ≤ (k : Int) := Int.natCast_nonneg _
      obtain ⟨l1, c1, f1⟩ := hV.out.open1
      by_cases hlt : k < n
      · have kp1 : (k : Int) < n := by omega
        obtain ⟨g1, o1, z, rfl, lg, hz, p0, p1, p2, p3⟩ := (HL.out.below hB.out).at_ HN.out hlt
        obtain ⟨_, z0, z1, z2, z3, z4, z5⟩ := Pl.ok_mem hrk hz
        have hbd := Pl.area_take_bd hrk k
        have HT := Lib.hid (Pl.area_take hz)
        have hm := Pl.mul_bd (a := z.w) (b := z.h) (A := 16) (B := 16) (by omega) (by omega) (by omega) (by omega)
        have u1 : IntKind.i64.wrap (z.w * z.h) = z.w * z.h := IntWalk.i64_in _ ⟨by omega, by omega⟩
        have u2 : IntKind.i64.wrap (Pl.area (zs.take k) + z.w * z.h) = Pl.area (zs.take k) + z.w * z.h := IntWalk.i64_in _ ⟨by omega, by omega⟩
        clear hz
        go_wp2_with (go_at_call 14; ((with_reducible refine (specRegionOk (some ⟨g1, o1, none⟩) n c zs _ (HL.out.below hB.out) HN.out hb).mono ?_)); rw [hrk]; rintro e w9 ⟨rfl, B9⟩; have V9 := Lib.hid (hV.out.step B9); have BB9 := Lib.hid (later hB.out B9); have k9 := (keepc B9 g1 lg).1; have kk0 := (k9 _).trans p0; have kk2 := (k9 _).trans p2; have kk3 := (k9 _).trans p3; obtain ⟨l9, c9, f9⟩ := V9.out.open1; clear k9 B9)
        refine regionL (S := (fun w' => w'.cell? ⟨w.heap.size, 0, none⟩ = some (.slice (some ⟨g1, o1, none⟩) n c) ∧ w'.cell? ⟨g1, o1 + k * 4 + 2, none⟩ = some (.int .i64 z.w) ∧ w'.cell? ⟨g1, o1 + k * 4 + 3, none⟩ = some (.int .i64 z.h))) (L := 16) (by kernel_rfl) ?_ (fun hHeld => ?_)
        · (((try dsimp only); (repeat' apply And.intro) <;> (first | (simp only [World.cell?_drew, *]; done) | (simp (disch := (first | omega | (simp; omega))) only [cell_far, cell_old, World.cell?_drew, *]; done))))
        refine takeL (i := 0) (oi := ?_) (v := ?_) ?_ (by kernel_rfl) (by kernel_rfl) (by kernel_rfl) (by kernel_rfl) ?_ (Or.inl ⟨?_, ?_⟩) (by assumption) ?_
        rotate_left 2
        · (simp only [List.getElem?_toArray, List.getElem?_cons_succ, List.getElem?_cons_zero]; rfl)
        · exact fun _ _ _ h => h
        · rfl
        · (intro w hSw; (try dsimp only at hSw); go_simp; (try with_reducible rfl))
        try simp only [Act.put, List.setIfInBounds_toArray, List.set_cons_zero, List.set_cons_succ]
        refine takeL (i := 1) (oi := ?_) (v := ?_) ?_ (by kernel_rfl) (by kernel_rfl) (by kernel_rfl) (by kernel_rfl) ?_ (Or.inl ⟨?_, ?_⟩) (by assumption) ?_
        rotate_left 2
        · (simp only [List.getElem?_toArray, List.getElem?_cons_succ, List.getElem?_cons_zero]; rfl)
        · exact fun _ _ _ h => h
        · rfl
        · (intro w hSw; (try dsimp only at hSw); go_simp; (try with_reducible rfl))
        try simp only [Act.put, List.setIfInBounds_toArray, List.set_cons_zero, List.set_cons_succ]
        refine takeL (i := 2) (oi := ?_) (v := ?_) ?_ (by kernel_rfl) (by kernel_rfl) (by kernel_rfl) (by kernel_rfl) ?_ (Or.inl ⟨?_, ?_⟩) (by assumption) ?_
        rotate_left 2
        · (simp only [List.getElem?_toArray, List.getElem?_cons_succ, List.getElem?_cons_zero]; rfl)
        · exact fun _ _ _ h => h
        · rfl
        · (intro w hSw; (try dsimp only at hSw); go_simp; (try with_reducible rfl))
        try simp only [Act.put, List.setIfInBounds_toArray, List.set_cons_zero, List.set_cons_succ]
        refine takeL (i := 3) (oi := ?_) (v := ?_) ?_ (by kernel_rfl) (by kernel_rfl) (by kernel_rfl) (by kernel_rfl) ?_ (Or.inl ⟨?_, ?_⟩) (by assumption) ?_
        rotate_left 2
        · (simp only [List.getElem?_toArray, List.getElem?_cons_succ, List.getElem?_cons_zero]; rfl)
        · exact fun _ _ _ h => h
        · rfl
        · (intro w hSw; (try dsimp only at hSw); go_simp; (try with_reducible rfl))
        try simp only [Act.put, List.setIfInBounds_toArray, List.set_cons_zero, List.set_cons_succ]
        refine takeL (i := 4) (oi := ?_) (v := ?_) ?_ (by kernel_rfl) (by kernel_rfl) (by kernel_rfl) (by kernel_rfl) ?_ (Or.inl ⟨?_, ?_⟩) (by assumption) ?_
        rotate_left 2
        · (simp only [List.getElem?_toArray, List.getElem?_cons_succ, List.getElem?_cons_zero]; rfl)
        · exact fun _ _ _ h => h
        · rfl
        · (intro w hSw; (try dsimp only at hSw); go_simp; (try with_reducible rfl))
        try simp only [Act.put, List.setIfInBounds_toArray, List.set_cons_zero, List.set_cons_succ]
        refine takeL (i := 5) (oi := ?_) (v := ?_) ?_ (by kernel_rfl) (by kernel_rfl) (by kernel_rfl) (by kernel_rfl) ?_ (Or.inl ⟨?_, ?_⟩) (by assumption) ?_
        rotate_left 2
        · (simp only [List.getElem?_toArray, List.getElem?_cons_succ, List.getElem?_cons_zero]; rfl)
        · exact fun _ _ _ h => h
        · rfl
        · (intro w hSw; (try dsimp only at hSw); go_simp; (try with_reducible rfl))
        try simp only [Act.put, List.setIfInBounds_toArray, List.set_cons_zero, List.set_cons_succ]
        refine takeL (i := 6) (oi := ?_) (v := ?_) ?_ (by kernel_rfl) (by kernel_rfl) (by kernel_rfl) (by kernel_rfl) ?_ (Or.inl ⟨?_, ?_⟩) (by assumption) ?_
        rotate_left 2
        · (simp only [List.getElem?_toArray, List.getElem?_cons_succ, List.getElem?_cons_zero]; rfl)
        · exact fun _ _ _ h => h
        · rfl
        · (intro w hSw; (try dsimp only at hSw); go_simp; (try with_reducible rfl))
        try simp only [Act.put, List.setIfInBounds_toArray, List.set_cons_zero, List.set_cons_succ]
        refine takeL (i := 7) (oi := ?_) (v := ?_) ?_ (by kernel_rfl) (by kernel_rfl) (by kernel_rfl) (by kernel_rfl) ?_ (Or.inl ⟨?_, ?_⟩) (by assumption) ?_
        rotate_left 2
        · (simp only [List.getElem?_toArray, List.getElem?_cons_succ, List.getElem?_cons_zero]; rfl)
        · exact fun _ _ _ h => h
        · rfl
        · (intro w hSw; (try dsimp only at hSw); go_simp; (try with_reducible rfl))
        try simp only [Act.put, List.setIfInBounds_toArray, List.set_cons_zero, List.set_cons_succ]
        refine takeL (i := 8) (oi := ?_) (v := ?_) ?_ (by kernel_rfl) (by kernel_rfl) (by kernel_rfl) (by kernel_rfl) ?_ (Or.inl ⟨?_, ?_⟩) (by assumption) ?_
        rotate_left 2
        · (simp only [List.getElem?_toArray, List.getElem?_cons_succ, List.getElem?_cons_zero]; rfl)
        · exact fun _ _ _ h => h
        · rfl
        · (intro w hSw; (try dsimp only at hSw); go_simp; (try with_reducible rfl))
        try simp only [Act.put, List.setIfInBounds_toArray, List.set_cons_zero, List.set_cons_succ]
        refine takeL (i := 9) (oi := ?_) (v := ?_) ?_ (by kernel_rfl) (by kernel_rfl) (by kernel_rfl) (by kernel_rfl) ?_ (Or.inl ⟨?_, ?_⟩) (by assumption) ?_
        rotate_left 2
        · (simp only [List.getElem?_toArray, List.getElem?_cons_succ, List.getElem?_cons_zero]; rfl)
        · exact fun _ _ _ h => h
        · rfl
        · (intro w hSw; (try dsimp only at hSw); go_simp; (try with_reducible rfl))
        try simp only [Act.put, List.setIfInBounds_toArray, List.set_cons_zero, List.set_cons_succ]
        refine takeL (i := 10) (oi := ?_) (v := ?_) ?_ (by kernel_rfl) (by kernel_rfl) (by kernel_rfl) (by kernel_rfl) ?_ (Or.inl ⟨?_, ?_⟩) (by assumption) ?_
        rotate_left 2
        · (simp only [List.getElem?_toArray, List.getElem?_cons_succ, List.getElem?_cons_zero]; rfl)
        · exact fun _ _ _ h => h
        · rfl
        · (intro w hSw; (try dsimp only at hSw); go_simp; (try with_reducible rfl))
        try simp only [Act.put, List.setIfInBounds_toArray, List.set_cons_zero, List.set_cons_succ]
        refine takeL (i := 11) (oi := ?_) (v := ?_) ?_ (by kernel_rfl) (by kernel_rfl) (by kernel_rfl) (by kernel_rfl) ?_ (Or.inl ⟨?_, ?_⟩) (by assumption) ?_
        rotate_left 2
        · (simp only [List.getElem?_toArray, List.getElem?_cons_succ, List.getElem?_cons_zero]; rfl)
        · exact fun _ _ _ h => h
        · rfl
        · (intro w hSw; (try dsimp only at hSw); go_simp; (try with_reducible rfl))
        try simp only [Act.put, List.setIfInBounds_toArray, List.set_cons_zero, List.set_cons_succ]
        refine takeL (i := 12) (oi := ?_) (v := ?_) ?_ (by kernel_rfl) (by kernel_rfl) (by kernel_rfl) (by kernel_rfl) ?_ (Or.inl ⟨?_, ?_⟩) (by assumption) ?_
        rotate_left 2
        · (simp only [List.getElem?_toArray, List.getElem?_cons_succ, List.getElem?_cons_zero]; rfl)
        · exact fun _ _ _ h => h
        · rfl
        · (intro w hSw; (try dsimp only at hSw); go_simp; (try with_reducible rfl))
        try simp only [Act.put, List.setIfInBounds_toArray, List.set_cons_zero, List.set_cons_succ]
        refine takeL (i := 13) (oi := ?_) (v := ?_) ?_ (by kernel_rfl) (by kernel_rfl) (by kernel_rfl) (by kernel_rfl) ?_ (Or.inl ⟨?_, ?_⟩) (by assumption) ?_
        rotate_left 2
        · (simp only [List.getElem?_toArray, List.getElem?_cons_succ, List.getElem?_cons_zero]; rfl)
        · exact fun _ _ _ h => h
        · rfl
        · (intro w hSw; (try dsimp only at hSw); go_simp; (try with_reducible rfl))
        try simp only [Act.put, List.setIfInBounds_toArray, List.set_cons_zero, List.set_cons_succ]
        refine takeL (i := 14) (oi := ?_) (v := ?_) ?_ (by kernel_rfl) (by kernel_rfl) (by kernel_rfl) (by kernel_rfl) ?_ (Or.inl ⟨?_, ?_⟩) (by assumption) ?_
        rotate_left 2
        · (simp only [List.getElem?_toArray, List.getElem?_cons_succ, List.getElem?_cons_zero]; rfl)
        · exact fun _ _ _ h => h
        · rfl
        · (intro w hSw; (try dsimp only at hSw); go_simp; (try with_reducible rfl))
        try simp only [Act.put, List.setIfInBounds_toArray, List.set_cons_zero, List.set_cons_succ]
        refine takeL (i := 15) (oi := ?_) (v := ?_) ?_ (by kernel_rfl) (by kernel_rfl) (by kernel_rfl) (by kernel_rfl) ?_ (Or.inl ⟨?_, ?_⟩) (by assumption) ?_
        rotate_left 2
        · (simp only [List.getElem?_toArray, List.getElem?_cons_succ, List.getElem?_cons_zero]; rfl)
        · exact fun _ _ _ h => h
        · rfl
        · (intro w hSw; (try dsimp only at hSw); go_simp; (try with_reducible rfl))
        try simp only [Act.put, List.setIfInBounds_toArray, List.set_cons_zero, List.set_cons_succ]
        refine doneL (by kernel_rfl) ?_ _
        go_wp2_with fail
        go_roundw
        case rel => exact ⟨k + 1, by omega, by go_num, by rw [HT.out], Lib.hid (VB.drew V9.out), Lib.hid (Below.drew BB9.out)⟩
        case measure => simp [intOf]; omega
      · obtain rfl : k = n := by omega
        have e : zs.take k = zs := List.take_of_length_le (by rw [HN.out]; exact Nat.le_refl _)
        go_wp2_with fail
        go_ret
        exact ⟨ret_int (by simp [Pl.areaOf, hrk, e]), hB.out⟩
set_option maxHeartbeats 4000000 in
theorem l03JoinOr (A B : Option Addr) (n m c d : Nat) (za zb : List Pl.R) (w : World) (HA : RArg w A za) (HB : RArg w B zb) (hn : za.length = n) (hm : zb.length = m) (hb : n ≤ 9223372036854775807) (hb2 : m ≤ 9223372036854775807) : Calls Try.prog 59 #[.agg #[.slice A n c], .agg #[.slice B m d], .int .i64 0] w (NewReg (Pl.unionOf za zb) w) := by
  have HN := Lib.hid hn
  have HM := Lib.hid hm
  have HL := Lib.hid HA
  have HK := Lib.hid HB
  clear HA HB hn hm
  go_enter Try.func59, Try.ntmps59
  go_upto_region 1 with fail
  have V1 := Lib.hid (((VB.new (w := w) (b := w.heap.size) (t := 29) (cs := [.slice A n c]) rfl).alloc (.cells #[.slice B m d] 29 (0, 0))).alloc (.cells #[.slice none 0 0] 29 (0, 0)))
  have V2 := Lib.hid ((VB.new (w := w.alloc (.cells #[.slice A n c] 29 (0, 0))) (b := w.heap.size + 1) (t := 29) (cs := [.slice B m d]) (by simp)).alloc (.cells #[.slice none 0 0] 29 (0, 0)))
  have VR := Lib.hid (VB.new (w := (w.alloc (.cells #[.slice A n c] 29 (0, 0))).alloc (.cells #[.slice B m d] 29 (0, 0))) (b := w.heap.size + 1 + 1) (t := 29) (cs := [.slice none 0 0]) (by simp))
  have BZ : Hid (Below w.heap.size w (((w.alloc (.cells #[.slice A n c] 29 (0, 0))).alloc (.cells #[.slice B m d] 29 (0, 0))).alloc (.cells #[.slice none 0 0] 29 (0, 0)))) := Lib.hid (by go_grown)
  generalize ((w.alloc (.cells #[.slice A n c] 29 (0, 0))).alloc (.cells #[.slice B m d] 29 (0, 0))).alloc (.cells #[.slice none 0 0] 29 (0, 0)) = wv at *
  obtain ⟨l1, c1, f1⟩ := V1.out.open1
  obtain ⟨l2, c2, f2⟩ := V2.out.open1
  obtain ⟨l3, c3, f3⟩ := VR.out.open1
  cases hra : Pl.regionOk za
  · go_wp2_with (go_at_call 14; ((with_reducible refine (specRegionOk A n c za _ (HL.out.below BZ.out) HN.out hb).mono ?_)); rw [hra]; rintro e w9 ⟨rfl, B9⟩; have VR9 := Lib.hid (VR.out.step B9); have BB9 := Lib.hid (later BZ.out B9); obtain ⟨l9, c9, f9⟩ := VR9.out.open1)
    have e : Pl.unionOf za zb = [] := by simp [Pl.unionOf, hra]
    rw [e]
    exact bodyPost_ret (v := .agg #[.slice none 0 0]) (by simp [results, Try.results59, go_sem, c9]) rfl ⟨none, 0, rfl, Recs.nil _ _ _ (Nat.le_refl _), BB9.out.setCell (by show w.heap.size ≤ w.heap.size + 1 + 1; omega) _⟩
  · cases hrb : Pl.regionOk zb
    · go_wp2_with (first
        | (go_at_call 14; ((with_reducible refine (specRegionOk A n c za _ (HL.out.below BZ.out) HN.out hb).mono ?_)); rw [hra]; rintro e w9 ⟨rfl, B9⟩; have V29 := Lib.hid (V2.out.step B9); have VR9 := Lib.hid (VR.out.step B9); have BB9 := Lib.hid (later BZ.out B9); obtain ⟨l9, c9, f9⟩ := V29.out.open1)
        | (go_at_call 14; ((with_reducible refine (specRegionOk B m d zb _ (HK.out.below BB9.out) HM.out hb2).mono ?_)); rw [hrb]; rintro e w8 ⟨rfl, B8⟩; have VR8 := Lib.hid (VR9.out.step B8); have BB8 := Lib.hid (later BB9.out B8); obtain ⟨l8, c8, f8⟩ := VR8.out.open1))
      have e : Pl.unionOf za zb = [] := by simp [Pl.unionOf, hrb]
      rw [e]
      exact bodyPost_ret (v := .agg #[.slice none 0 0]) (by simp [results, Try.results59, go_sem, c8]) rfl ⟨none, 0, rfl, Recs.nil _ _ _ (Nat.le_refl _), BB8.out.setCell (by show w.heap.size ≤ w.heap.size + 1 + 1; omega) _⟩
    · have e : Hid (Pl.unionOf za zb = Pl.canon (fun y x => Pl.gridL za y x ||Pl.gridL zb y x)) := Lib.hid (by simp [Pl.unionOf, hra, hrb])
      go_wp2_with (first
        | (go_at_call 14; ((with_reducible refine (specRegionOk A n c za _ (HL.out.below BZ.out) HN.out hb).mono ?_)); rw [hra]; rintro e w9 ⟨rfl, B9⟩; have V19 := Lib.hid (V1.out.step B9); have V29 := Lib.hid (V2.out.step B9); have VR9 := Lib.hid (VR.out.step B9); have BB9 := Lib.hid (later BZ.out B9); obtain ⟨l9, c9, f9⟩ := V29.out.open1; clear B9)
        | (go_at_call 14; ((with_reducible refine (specRegionOk B m d zb _ (HK.out.below BB9.out) HM.out hb2).mono ?_)); rw [hrb]; rintro e w8 ⟨rfl, B8⟩; have W1 := Lib.hid (V19.out.step B8); have W2 := Lib.hid (V29.out.step B8); have VR8 := Lib.hid (VR9.out.step B8); have BB8 := Lib.hid (later BB9.out B8); obtain ⟨l8, c8, f8⟩ := W1.out.open1; clear B8)
        | (go_at_call 47; ((with_reducible refine (l03Grid_any A n c za _ (HL.out.below BB8.out) HN.out hb).mono ?_)); rintro e w7 ⟨A7, c7, rfl, O7, B7⟩; have I7 := Lib.hid O7; have VR7 := Lib.hid (VR8.out.step B7); have W27 := Lib.hid (W2.out.step B7); have BB7 := Lib.hid (later BB8.out B7); obtain ⟨l7, q7, f7⟩ := W27.out.open1; have s8 := VR8.out.lt; clear O7 B7)
        | (go_at_call 47; ((with_reducible refine (l03Grid_any B m d zb _ (HK.out.below BB7.out) HM.out hb2).mono ?_)); rintro e w6 ⟨A6, c6, rfl, O6, B6⟩; have I6 := Lib.hid O6; have J6 := Lib.hid (I7.out.step B6); have VR6 := Lib.hid (VR7.out.step B6); have BB6 := Lib.hid (later BB7.out B6); clear O6 B6))
      go_loopw [9] (fun sk wr => ∃ k : Nat, k ≤ 256 ∧ sk = .int .i64 k ∧ Hid (Bls wr w8.heap.size w7.heap.size (.slice A7 256 c7) (Pl.flat (fun j i => if j * 16 + i < k then (Pl.gridL za j i ||Pl.gridL zb j i) else Pl.gridL za j i))) ∧ Hid (Bls wr w7.heap.size w6.heap.size (.slice A6 256 c6) (Pl.flat (Pl.gridL zb))) ∧ Hid (VB wr (w.heap.size + 1 + 1) [.slice none 0 0]) ∧ Hid (Below w.heap.size w wr)) (fun sk _ => 256 - (intOf sk).toNat)
      case atStart => exact ⟨0, by omega, rfl, Lib.hid (by rw [Pl.flat_congr (K := Pl.gridL za) (fun j _ i _ => if_neg (by omega))]; exact J6.out), I6, VR6, BB6⟩
      case round =>
        obtain ⟨k, hk, rfl, hS, hT, hR, hB⟩ := hrel
        have kp0 : (0 : Int) ≤ (k : Int) := Int.natCast_nonneg _
        by_cases hlt : k < 256
        · have kp1 : (k : Int) < 256 := by omega
          obtain ⟨g, rfl, lg, hg, lgs, cg, fg⟩ := hS.out.flatAt (y := k / 16) (x := k % 16) (by omega) (by omega)
          obtain ⟨g2, rfl, lg2, hg2, lgs2, cg2, fg2⟩ := hT.out.flatAt (y := k / 16) (x := k % 16) (by omega) (by omega)
          rw [show k / 16 * 16 + k % 16 = k by omega] at cg fg cg2 fg2
          rw [if_neg (by omega)] at cg
          have hst : ∀ v : Bool, v = (Pl.gridL za (k / 16) (k % 16) ||Pl.gridL zb (k / 16) (k % 16)) → (Pl.flat (fun j i => if j * 16 + i < k then (Pl.gridL za j i ||Pl.gridL zb j i) else Pl.gridL za j i)).set k v = Pl.flat (fun j i => if j * 16 + i < k + 1 then (Pl.gridL za j i ||Pl.gridL zb j i) else Pl.gridL za j i) := by
            intro v hv
            rw [Pl.flat_set1 _ hlt]
            refine Pl.flat_congr fun j hj i hi => ?_
            by_cases e : j * 16 + i = k
            · rw [if_pos e, if_pos (by omega), hv, show k / 16 = j by omega, show k % 16 = i by omega]
            · rw [if_neg e]
              by_cases e2 : j * 16 + i < k
              · rw [if_pos e2, if_pos (by omega)]
              · rw [if_neg e2, if_neg (by omega)]
          have HST := Lib.hid hst
          clear hst
          cases ha : Pl.gridL za (k / 16) (k % 16)
          all_goals
            cases hbb : Pl.gridL zb (k / 16) (k % 16)
            all_goals
              rw [ha] at cg HST
              rw [hbb] at cg2 HST
              go_wp2_with fail
              go_roundw
              case rel => exact ⟨k + 1, by omega, by go_num, Lib.hid (by rw [← HST.out _ rfl]; exact hS.out.stored k _), Lib.hid (Own.far (p := ⟨g, k, none⟩) hT.out (by left; show g < w7.heap.size; exact hg) _), Lib.hid (hR.out.far _ _ (by show w.heap.size + 1 + 1 ≠ g; omega)), Lib.hid (hB.out.setCell (by show w.heap.size ≤ g; have := BB8.out.size; omega) _)⟩
              case measure => simp [intOf]; omega
        · obtain rfl : k = 256 := by omega
          have hfin : Hid (Bls wr w8.heap.size w7.heap.size (.slice A7 256 c7) (Pl.flat (fun y x => Pl.gridL za y x ||Pl.gridL zb y x))) := Lib.hid (by rw [← Pl.flat_congr (H := fun j i => if j * 16 + i < 256 then (Pl.gridL za j i ||Pl.gridL zb j i) else Pl.gridL za j i) (fun j hj i hi => if_pos (by omega))]; exact hS.out)
          go_wp2_with (go_at_call 46; ((with_reducible refine (l03Canon_any A7 c7 _ _ (fun y x => Pl.gridL za y x ||Pl.gridL zb y x) _ hfin.out).mono ?_)); rintro e w4 ⟨A4, k4, rfl, O4, B4⟩; have I4 := Lib.hid O4; have VR4 := Lib.hid (hR.out.step B4); have BB4 := Lib.hid (later hB.out B4); obtain ⟨l4, r4, f4⟩ := VR4.out.open1; have ls := hR.out.lt; clear O4 B4)
          rw [e.out]
          refine bodyPost_ret (v := .agg #[.slice A4 (Pl.canon (fun y x => Pl.gridL za y x ||Pl.gridL zb y x)).length k4]) (by simp [results, Try.results59, go_sem, r4]) rfl ⟨A4, k4, rfl, ?_, BB4.out.setCell (by show w.heap.size ≤ w.heap.size + 1 + 1; omega) _⟩
          have h1 := Own.far (p := ⟨w.heap.size + 1 + 1, 0, none⟩) I4.out (by left; exact ls) (.slice A4 (Pl.canon (fun y x => Pl.gridL za y x ||Pl.gridL zb y x)).length k4)
          exact Own.mono h1 hB.out.size (by simp [World.setCell]) (Nat.le_refl _)
set_option maxHeartbeats 4000000 in
theorem l03JoinAnd (A B : Option Addr) (n m c d : Nat) (za zb : List Pl.R) (w : World) (HA : RArg w A za) (HB : RArg w B zb) (hn : za.length = n) (hm : zb.length = m) (hb : n ≤ 9223372036854775807) (hb2 : m ≤ 9223372036854775807) : Calls Try.prog 59 #[.agg #[.slice A n c], .agg #[.slice B m d], .int .i64 1] w (NewReg (Pl.commonOf za zb) w) := by
  have HN := Lib.hid hn
  have HM := Lib.hid hm
  have HL := Lib.hid HA
  have HK := Lib.hid HB
  clear HA HB hn hm
  go_enter Try.func59, Try.ntmps59
  go_upto_region 1 with fail
  have V1 := Lib.hid (((VB.new (w := w) (b := w.heap.size) (t := 29) (cs := [.slice A n c]) rfl).alloc (.cells #[.slice B m d] 29 (0, 0))).alloc (.cells #[.slice none 0 0] 29 (0, 0)))
  have V2 := Lib.hid ((VB.new (w := w.alloc (.cells #[.slice A n c] 29 (0, 0))) (b := w.heap.size + 1) (t := 29) (cs := [.slice B m d]) (by simp)).alloc (.cells #[.slice none 0 0] 29 (0, 0)))
  have VR := Lib.hid (VB.new (w := (w.alloc (.cells #[.slice A n c] 29 (0, 0))).alloc (.cells #[.slice B m d] 29 (0, 0))) (b := w.heap.size + 1 + 1) (t := 29) (cs := [.slice none 0 0]) (by simp))
  have BZ : Hid (Below w.heap.size w (((w.alloc (.cells #[.slice A n c] 29 (0, 0))).alloc (.cells #[.slice B m d] 29 (0, 0))).alloc (.cells #[.slice none 0 0] 29 (0, 0)))) := Lib.hid (by go_grown)
  generalize ((w.alloc (.cells #[.slice A n c] 29 (0, 0))).alloc (.cells #[.slice B m d] 29 (0, 0))).alloc (.cells #[.slice none 0 0] 29 (0, 0)) = wv at *
  obtain ⟨l1, c1, f1⟩ := V1.out.open1
  obtain ⟨l2, c2, f2⟩ := V2.out.open1
  obtain ⟨l3, c3, f3⟩ := VR.out.open1
  cases hra : Pl.regionOk za
  · go_wp2_with (go_at_call 14; ((with_reducible refine (specRegionOk A n c za _ (HL.out.below BZ.out) HN.out hb).mono ?_)); rw [hra]; rintro e w9 ⟨rfl, B9⟩; have VR9 := Lib.hid (VR.out.step B9); have BB9 := Lib.hid (later BZ.out B9); obtain ⟨l9, c9, f9⟩ := VR9.out.open1)
    have e : Pl.commonOf za zb = [] := by simp [Pl.commonOf, hra]
    rw [e]
    exact bodyPost_ret (v := .agg #[.slice none 0 0]) (by simp [results, Try.results59, go_sem, c9]) rfl ⟨none, 0, rfl, Recs.nil _ _ _ (Nat.le_refl _), BB9.out.setCell (by show w.heap.size ≤ w.heap.size + 1 + 1; omega) _⟩
  · cases hrb : Pl.regionOk zb
    · go_wp2_with (first
        | (go_at_call 14; ((with_reducible refine (specRegionOk A n c za _ (HL.out.below BZ.out) HN.out hb).mono ?_)); rw [hra]; rintro e w9 ⟨rfl, B9⟩; have V29 := Lib.hid (V2.out.step B9); have VR9 := Lib.hid (VR.out.step B9); have BB9 := Lib.hid (later BZ.out B9); obtain ⟨l9, c9, f9⟩ := V29.out.open1)
        | (go_at_call 14; ((with_reducible refine (specRegionOk B m d zb _ (HK.out.below BB9.out) HM.out hb2).mono ?_)); rw [hrb]; rintro e w8 ⟨rfl, B8⟩; have VR8 := Lib.hid (VR9.out.step B8); have BB8 := Lib.hid (later BB9.out B8); obtain ⟨l8, c8, f8⟩ := VR8.out.open1))
      have e : Pl.commonOf za zb = [] := by simp [Pl.commonOf, hrb]
      rw [e]
      exact bodyPost_ret (v := .agg #[.slice none 0 0]) (by simp [results, Try.results59, go_sem, c8]) rfl ⟨none, 0, rfl, Recs.nil _ _ _ (Nat.le_refl _), BB8.out.setCell (by show w.heap.size ≤ w.heap.size + 1 + 1; omega) _⟩
    · have e : Hid (Pl.commonOf za zb = Pl.canon (fun y x => Pl.gridL za y x &&Pl.gridL zb y x)) := Lib.hid (by simp [Pl.commonOf, hra, hrb])
      go_wp2_with (first
        | (go_at_call 14; ((with_reducible refine (specRegionOk A n c za _ (HL.out.below BZ.out) HN.out hb).mono ?_)); rw [hra]; rintro e w9 ⟨rfl, B9⟩; have V19 := Lib.hid (V1.out.step B9); have V29 := Lib.hid (V2.out.step B9); have VR9 := Lib.hid (VR.out.step B9); have BB9 := Lib.hid (later BZ.out B9); obtain ⟨l9, c9, f9⟩ := V29.out.open1; clear B9)
        | (go_at_call 14; ((with_reducible refine (specRegionOk B m d zb _ (HK.out.below BB9.out) HM.out hb2).mono ?_)); rw [hrb]; rintro e w8 ⟨rfl, B8⟩; have W1 := Lib.hid (V19.out.step B8); have W2 := Lib.hid (V29.out.step B8); have VR8 := Lib.hid (VR9.out.step B8); have BB8 := Lib.hid (later BB9.out B8); obtain ⟨l8, c8, f8⟩ := W1.out.open1; clear B8)
        | (go_at_call 47; ((with_reducible refine (l03Grid_any A n c za _ (HL.out.below BB8.out) HN.out hb).mono ?_)); rintro e w7 ⟨A7, c7, rfl, O7, B7⟩; have I7 := Lib.hid O7; have VR7 := Lib.hid (VR8.out.step B7); have W27 := Lib.hid (W2.out.step B7); have BB7 := Lib.hid (later BB8.out B7); obtain ⟨l7, q7, f7⟩ := W27.out.open1; have s8 := VR8.out.lt; clear O7 B7)
        | (go_at_call 47; ((with_reducible refine (l03Grid_any B m d zb _ (HK.out.below BB7.out) HM.out hb2).mono ?_)); rintro e w6 ⟨A6, c6, rfl, O6, B6⟩; have I6 := Lib.hid O6; have J6 := Lib.hid (I7.out.step B6); have VR6 := Lib.hid (VR7.out.step B6); have BB6 := Lib.hid (later BB7.out B6); clear O6 B6))
      go_loopw [9] (fun sk wr => ∃ k : Nat, k ≤ 256 ∧ sk = .int .i64 k ∧ Hid (Bls wr w8.heap.size w7.heap.size (.slice A7 256 c7) (Pl.flat (fun j i => if j * 16 + i < k then (Pl.gridL za j i &&Pl.gridL zb j i) else Pl.gridL za j i))) ∧ Hid (Bls wr w7.heap.size w6.heap.size (.slice A6 256 c6) (Pl.flat (Pl.gridL zb))) ∧ Hid (VB wr (w.heap.size + 1 + 1) [.slice none 0 0]) ∧ Hid (Below w.heap.size w wr)) (fun sk _ => 256 - (intOf sk).toNat)
      case atStart => exact ⟨0, by omega, rfl, Lib.hid (by rw [Pl.flat_congr (K := Pl.gridL za) (fun j _ i _ => if_neg (by omega))]; exact J6.out), I6, VR6, BB6⟩
      case round =>
        obtain ⟨k, hk, rfl, hS, hT, hR, hB⟩ := hrel
        have kp0 : (0 : Int) ≤ (k : Int) := Int.natCast_nonneg _
        by_cases hlt : k < 256
        · have kp1 : (k : Int) < 256 := by omega
          obtain ⟨g, rfl, lg, hg, lgs, cg, fg⟩ := hS.out.flatAt (y := k / 16) (x := k % 16) (by omega) (by omega)
          obtain ⟨g2, rfl, lg2, hg2, lgs2, cg2, fg2⟩ := hT.out.flatAt (y := k / 16) (x := k % 16) (by omega) (by omega)
          rw [show k / 16 * 16 + k % 16 = k by omega] at cg fg cg2 fg2
          rw [if_neg (by omega)] at cg
          have hst : ∀ v : Bool, v = (Pl.gridL za (k / 16) (k % 16) &&Pl.gridL zb (k / 16) (k % 16)) → (Pl.flat (fun j i => if j * 16 + i < k then (Pl.gridL za j i &&Pl.gridL zb j i) else Pl.gridL za j i)).set k v = Pl.flat (fun j i => if j * 16 + i < k + 1 then (Pl.gridL za j i &&Pl.gridL zb j i) else Pl.gridL za j i) := by
            intro v hv
            rw [Pl.flat_set1 _ hlt]
            refine Pl.flat_congr fun j hj i hi => ?_
            by_cases e : j * 16 + i = k
            · rw [if_pos e, if_pos (by omega), hv, show k / 16 = j by omega, show k % 16 = i by omega]
            · rw [if_neg e]
              by_cases e2 : j * 16 + i < k
              · rw [if_pos e2, if_pos (by omega)]
              · rw [if_neg e2, if_neg (by omega)]
          have HST := Lib.hid hst
          clear hst
          cases ha : Pl.gridL za (k / 16) (k % 16)
          all_goals
            cases hbb : Pl.gridL zb (k / 16) (k % 16)
            all_goals
              rw [ha] at cg HST
              rw [hbb] at cg2 HST
              go_wp2_with fail
              go_roundw
              case rel => exact ⟨k + 1, by omega, by go_num, Lib.hid (by rw [← HST.out _ rfl]; exact hS.out.stored k _), Lib.hid (Own.far (p := ⟨g, k, none⟩) hT.out (by left; show g < w7.heap.size; exact hg) _), Lib.hid (hR.out.far _ _ (by show w.heap.size + 1 + 1 ≠ g; omega)), Lib.hid (hB.out.setCell (by show w.heap.size ≤ g; have := BB8.out.size; omega) _)⟩
              case measure => simp [intOf]; omega
        · obtain rfl : k = 256 := by omega
          have hfin : Hid (Bls wr w8.heap.size w7.heap.size (.slice A7 256 c7) (Pl.flat (fun y x => Pl.gridL za y x &&Pl.gridL zb y x))) := Lib.hid (by rw [← Pl.flat_congr (H := fun j i => if j * 16 + i < 256 then (Pl.gridL za j i &&Pl.gridL zb j i) else Pl.gridL za j i) (fun j hj i hi => if_pos (by omega))]; exact hS.out)
          go_wp2_with (go_at_call 46; ((with_reducible refine (l03Canon_any A7 c7 _ _ (fun y x => Pl.gridL za y x &&Pl.gridL zb y x) _ hfin.out).mono ?_)); rintro e w4 ⟨A4, k4, rfl, O4, B4⟩; have I4 := Lib.hid O4; have VR4 := Lib.hid (hR.out.step B4); have BB4 := Lib.hid (later hB.out B4); obtain ⟨l4, r4, f4⟩ := VR4.out.open1; have ls := hR.out.lt; clear O4 B4)
          rw [e.out]
          refine bodyPost_ret (v := .agg #[.slice A4 (Pl.canon (fun y x => Pl.gridL za y x &&Pl.gridL zb y x)).length k4]) (by simp [results, Try.results59, go_sem, r4]) rfl ⟨A4, k4, rfl, ?_, BB4.out.setCell (by show w.heap.size ≤ w.heap.size + 1 + 1; omega) _⟩
          have h1 := Own.far (p := ⟨w.heap.size + 1 + 1, 0, none⟩) I4.out (by left; exact ls) (.slice A4 (Pl.canon (fun y x => Pl.gridL za y x &&Pl.gridL zb y x)).length k4)
          exact Own.mono h1 hB.out.size (by simp [World.setCell]) (Nat.le_refl _)
set_option maxHeartbeats 4000000 in
theorem l03JoinNot (A B : Option Addr) (n m c d : Nat) (za zb : List Pl.R) (w : World) (HA : RArg w A za) (HB : RArg w B zb) (hn : za.length = n) (hm : zb.length = m) (hb : n ≤ 9223372036854775807) (hb2 : m ≤ 9223372036854775807) : Calls Try.prog 59 #[.agg #[.slice A n c], .agg #[.slice B m d], .int .i64 2] w (NewReg (Pl.withoutOf za zb) w) := by
  have HN := Lib.hid hn
  have HM := Lib.hid hm
  have HL := Lib.hid HA
  have HK := Lib.hid HB
  clear HA HB hn hm
  go_enter Try.func59, Try.ntmps59
  go_upto_region 1 with fail
  have V1 := Lib.hid (((VB.new (w := w) (b := w.heap.size) (t := 29) (cs := [.slice A n c]) rfl).alloc (.cells #[.slice B m d] 29 (0, 0))).alloc (.cells #[.slice none 0 0] 29 (0, 0)))
  have V2 := Lib.hid ((VB.new (w := w.alloc (.cells #[.slice A n c] 29 (0, 0))) (b := w.heap.size + 1) (t := 29) (cs := [.slice B m d]) (by simp)).alloc (.cells #[.slice none 0 0] 29 (0, 0)))
  have VR := Lib.hid (VB.new (w := (w.alloc (.cells #[.slice A n c] 29 (0, 0))).alloc (.cells #[.slice B m d] 29 (0, 0))) (b := w.heap.size + 1 + 1) (t := 29) (cs := [.slice none 0 0]) (by simp))
  have BZ : Hid (Below w.heap.size w (((w.alloc (.cells #[.slice A n c] 29 (0, 0))).alloc (.cells #[.slice B m d] 29 (0, 0))).alloc (.cells #[.slice none 0 0] 29 (0, 0)))) := Lib.hid (by go_grown)
  generalize ((w.alloc (.cells #[.slice A n c] 29 (0, 0))).alloc (.cells #[.slice B m d] 29 (0, 0))).alloc (.cells #[.slice none 0 0] 29 (0, 0)) = wv at *
  obtain ⟨l1, c1, f1⟩ := V1.out.open1
  obtain ⟨l2, c2, f2⟩ := V2.out.open1
  obtain ⟨l3, c3, f3⟩ := VR.out.open1
  cases hra : Pl.regionOk za
  · go_wp2_with (go_at_call 14; ((with_reducible refine (specRegionOk A n c za _ (HL.out.below BZ.out) HN.out hb).mono ?_)); rw [hra]; rintro e w9 ⟨rfl, B9⟩; have VR9 := Lib.hid (VR.out.step B9); have BB9 := Lib.hid (later BZ.out B9); obtain ⟨l9, c9, f9⟩ := VR9.out.open1)
    have e : Pl.withoutOf za zb = [] := by simp [Pl.withoutOf, hra]
    rw [e]
    exact bodyPost_ret (v := .agg #[.slice none 0 0]) (by simp [results, Try.results59, go_sem, c9]) rfl ⟨none, 0, rfl, Recs.nil _ _ _ (Nat.le_refl _), BB9.out.setCell (by show w.heap.size ≤ w.heap.size + 1 + 1; omega) _⟩
  · cases hrb : Pl.regionOk zb
    · go_wp2_with (first
        | (go_at_call 14; ((with_reducible refine (specRegionOk A n c za _ (HL.out.below BZ.out) HN.out hb).mono ?_)); rw [hra]; rintro e w9 ⟨rfl, B9⟩; have V29 := Lib.hid (V2.out.step B9); have VR9 := Lib.hid (VR.out.step B9); have BB9 := Lib.hid (later BZ.out B9); obtain ⟨l9, c9, f9⟩ := V29.out.open1)
        | (go_at_call 14; ((with_reducible refine (specRegionOk B m d zb _ (HK.out.below BB9.out) HM.out hb2).mono ?_)); rw [hrb]; rintro e w8 ⟨rfl, B8⟩; have VR8 := Lib.hid (VR9.out.step B8); have BB8 := Lib.hid (later BB9.out B8); obtain ⟨l8, c8, f8⟩ := VR8.out.open1))
      have e : Pl.withoutOf za zb = [] := by simp [Pl.withoutOf, hrb]
      rw [e]
      exact bodyPost_ret (v := .agg #[.slice none 0 0]) (by simp [results, Try.results59, go_sem, c8]) rfl ⟨none, 0, rfl, Recs.nil _ _ _ (Nat.le_refl _), BB8.out.setCell (by show w.heap.size ≤ w.heap.size + 1 + 1; omega) _⟩
    · have e : Hid (Pl.withoutOf za zb = Pl.canon (fun y x => Pl.gridL za y x && !Pl.gridL zb y x)) := Lib.hid (by simp [Pl.withoutOf, hra, hrb])
      go_wp2_with (first
        | (go_at_call 14; ((with_reducible refine (specRegionOk A n c za _ (HL.out.below BZ.out) HN.out hb).mono ?_)); rw [hra]; rintro e w9 ⟨rfl, B9⟩; have V19 := Lib.hid (V1.out.step B9); have V29 := Lib.hid (V2.out.step B9); have VR9 := Lib.hid (VR.out.step B9); have BB9 := Lib.hid (later BZ.out B9); obtain ⟨l9, c9, f9⟩ := V29.out.open1; clear B9)
        | (go_at_call 14; ((with_reducible refine (specRegionOk B m d zb _ (HK.out.below BB9.out) HM.out hb2).mono ?_)); rw [hrb]; rintro e w8 ⟨rfl, B8⟩; have W1 := Lib.hid (V19.out.step B8); have W2 := Lib.hid (V29.out.step B8); have VR8 := Lib.hid (VR9.out.step B8); have BB8 := Lib.hid (later BB9.out B8); obtain ⟨l8, c8, f8⟩ := W1.out.open1; clear B8)
        | (go_at_call 47; ((with_reducible refine (l03Grid_any A n c za _ (HL.out.below BB8.out) HN.out hb).mono ?_)); rintro e w7 ⟨A7, c7, rfl, O7, B7⟩; have I7 := Lib.hid O7; have VR7 := Lib.hid (VR8.out.step B7); have W27 := Lib.hid (W2.out.step B7); have BB7 := Lib.hid (later BB8.out B7); obtain ⟨l7, q7, f7⟩ := W27.out.open1; have s8 := VR8.out.lt; clear O7 B7)
        | (go_at_call 47; ((with_reducible refine (l03Grid_any B m d zb _ (HK.out.below BB7.out) HM.out hb2).mono ?_)); rintro e w6 ⟨A6, c6, rfl, O6, B6⟩; have I6 := Lib.hid O6; have J6 := Lib.hid (I7.out.step B6); have VR6 := Lib.hid (VR7.out.step B6); have BB6 := Lib.hid (later BB7.out B6); clear O6 B6))
      go_loopw [9] (fun sk wr => ∃ k : Nat, k ≤ 256 ∧ sk = .int .i64 k ∧ Hid (Bls wr w8.heap.size w7.heap.size (.slice A7 256 c7) (Pl.flat (fun j i => if j * 16 + i < k then (Pl.gridL za j i && !Pl.gridL zb j i) else Pl.gridL za j i))) ∧ Hid (Bls wr w7.heap.size w6.heap.size (.slice A6 256 c6) (Pl.flat (Pl.gridL zb))) ∧ Hid (VB wr (w.heap.size + 1 + 1) [.slice none 0 0]) ∧ Hid (Below w.heap.size w wr)) (fun sk _ => 256 - (intOf sk).toNat)
      case atStart => exact ⟨0, by omega, rfl, Lib.hid (by rw [Pl.flat_congr (K := Pl.gridL za) (fun j _ i _ => if_neg (by omega))]; exact J6.out), I6, VR6, BB6⟩
      case round =>
        obtain ⟨k, hk, rfl, hS, hT, hR, hB⟩ := hrel
        have kp0 : (0 : Int) ≤ (k : Int) := Int.natCast_nonneg _
        by_cases hlt : k < 256
        · have kp1 : (k : Int) < 256 := by omega
          obtain ⟨g, rfl, lg, hg, lgs, cg, fg⟩ := hS.out.flatAt (y := k / 16) (x := k % 16) (by omega) (by omega)
          obtain ⟨g2, rfl, lg2, hg2, lgs2, cg2, fg2⟩ := hT.out.flatAt (y := k / 16) (x := k % 16) (by omega) (by omega)
          rw [show k / 16 * 16 + k % 16 = k by omega] at cg fg cg2 fg2
          rw [if_neg (by omega)] at cg
          have hst : ∀ v : Bool, v = (Pl.gridL za (k / 16) (k % 16) && !Pl.gridL zb (k / 16) (k % 16)) → (Pl.flat (fun j i => if j * 16 + i < k then (Pl.gridL za j i && !Pl.gridL zb j i) else Pl.gridL za j i)).set k v = Pl.flat (fun j i => if j * 16 + i < k + 1 then (Pl.gridL za j i && !Pl.gridL zb j i) else Pl.gridL za j i) := by
            intro v hv
            rw [Pl.flat_set1 _ hlt]
            refine Pl.flat_congr fun j hj i hi => ?_
            by_cases e : j * 16 + i = k
            · rw [if_pos e, if_pos (by omega), hv, show k / 16 = j by omega, show k % 16 = i by omega]
            · rw [if_neg e]
              by_cases e2 : j * 16 + i < k
              · rw [if_pos e2, if_pos (by omega)]
              · rw [if_neg e2, if_neg (by omega)]
          have HST := Lib.hid hst
          clear hst
          cases ha : Pl.gridL za (k / 16) (k % 16)
          all_goals
            cases hbb : Pl.gridL zb (k / 16) (k % 16)
            all_goals
              rw [ha] at cg HST
              rw [hbb] at cg2 HST
              go_wp2_with fail
              go_roundw
              case rel => exact ⟨k + 1, by omega, by go_num, Lib.hid (by rw [← HST.out _ rfl]; exact hS.out.stored k _), Lib.hid (Own.far (p := ⟨g, k, none⟩) hT.out (by left; show g < w7.heap.size; exact hg) _), Lib.hid (hR.out.far _ _ (by show w.heap.size + 1 + 1 ≠ g; omega)), Lib.hid (hB.out.setCell (by show w.heap.size ≤ g; have := BB8.out.size; omega) _)⟩
              case measure => simp [intOf]; omega
        · obtain rfl : k = 256 := by omega
          have hfin : Hid (Bls wr w8.heap.size w7.heap.size (.slice A7 256 c7) (Pl.flat (fun y x => Pl.gridL za y x && !Pl.gridL zb y x))) := Lib.hid (by rw [← Pl.flat_congr (H := fun j i => if j * 16 + i < 256 then (Pl.gridL za j i && !Pl.gridL zb j i) else Pl.gridL za j i) (fun j hj i hi => if_pos (by omega))]; exact hS.out)
          go_wp2_with (go_at_call 46; ((with_reducible refine (l03Canon_any A7 c7 _ _ (fun y x => Pl.gridL za y x && !Pl.gridL zb y x) _ hfin.out).mono ?_)); rintro e w4 ⟨A4, k4, rfl, O4, B4⟩; have I4 := Lib.hid O4; have VR4 := Lib.hid (hR.out.step B4); have BB4 := Lib.hid (later hB.out B4); obtain ⟨l4, r4, f4⟩ := VR4.out.open1; have ls := hR.out.lt; clear O4 B4)
          rw [e.out]
          refine bodyPost_ret (v := .agg #[.slice A4 (Pl.canon (fun y x => Pl.gridL za y x && !Pl.gridL zb y x)).length k4]) (by simp [results, Try.results59, go_sem, r4]) rfl ⟨A4, k4, rfl, ?_, BB4.out.setCell (by show w.heap.size ≤ w.heap.size + 1 + 1; omega) _⟩
          have h1 := Own.far (p := ⟨w.heap.size + 1 + 1, 0, none⟩) I4.out (by left; exact ls) (.slice A4 (Pl.canon (fun y x => Pl.gridL za y x && !Pl.gridL zb y x)).length k4)
          exact Own.mono h1 hB.out.size (by simp [World.setCell]) (Nat.le_refl _)
end Go.Proofs.Ytlnailpefdlnnaa
