/- Contracts: the reference's UnionOf, CommonOf, WithoutOf, BoundsOf. -/
import Derived.Test.YtlnailpefdlnnaaSReg
namespace Go.Proofs.Ytlnailpefdlnnaa
open Go.RowKit
set_option linter.unusedVariables false
set_option linter.unusedSimpArgs false
set_option maxHeartbeats 4000000 in
theorem specUnionOf (A B : Option Addr) (n m c d : Nat) (za zb : List Pl.R) (w : World) (HA : RArg w A za) (HB : RArg w B zb) (hn : za.length = n) (hm : zb.length = m) (hb : n ≤ 9223372036854775807) (hb2 : m ≤ 9223372036854775807) : Calls Try.prog 33 #[.agg #[.slice A n c], .agg #[.slice B m d]] w (NewReg (Pl.unionOf za zb) w) := by
  have HN := Lib.hid hn
  have HM := Lib.hid hm
  have HL := Lib.hid HA
  have HK := Lib.hid HB
  clear HA HB hn hm
  go_enter Try.func33, Try.ntmps33
  go_upto_region 1 with fail
  have V1 := Lib.hid (((VB.new (w := w) (b := w.heap.size) (t := 29) (cs := [.slice A n c]) rfl).alloc (.cells #[.slice B m d] 29 (0, 0))).alloc (.cells #[.slice none 0 0] 29 (0, 0)))
  have V2 := Lib.hid ((VB.new (w := w.alloc (.cells #[.slice A n c] 29 (0, 0))) (b := w.heap.size + 1) (t := 29) (cs := [.slice B m d]) (by simp)).alloc (.cells #[.slice none 0 0] 29 (0, 0)))
  have VR := Lib.hid (VB.new (w := (w.alloc (.cells #[.slice A n c] 29 (0, 0))).alloc (.cells #[.slice B m d] 29 (0, 0))) (b := w.heap.size + 1 + 1) (t := 29) (cs := [.slice none 0 0]) (by simp))
  have BZ : Hid (Below w.heap.size w (((w.alloc (.cells #[.slice A n c] 29 (0, 0))).alloc (.cells #[.slice B m d] 29 (0, 0))).alloc (.cells #[.slice none 0 0] 29 (0, 0)))) := Lib.hid (by go_grown)
  generalize ((w.alloc (.cells #[.slice A n c] 29 (0, 0))).alloc (.cells #[.slice B m d] 29 (0, 0))).alloc (.cells #[.slice none 0 0] 29 (0, 0)) = wv at *
  obtain ⟨l1, c1, f1⟩ := V1.out.open1
  obtain ⟨l2, c2, f2⟩ := V2.out.open1
  go_wp2_with (go_at_call 59; ((with_reducible refine (l03JoinOr A B n m c d za zb _ (HL.out.below BZ.out) (HK.out.below BZ.out) HN.out HM.out hb hb2).mono ?_)); rintro e w4 ⟨A4, k4, rfl, O4, B4⟩; have I4 := Lib.hid O4; have VR4 := Lib.hid (VR.out.step B4); have BB4 := Lib.hid (later BZ.out B4); obtain ⟨l4, r4, f4⟩ := VR4.out.open1; have ls := VR.out.lt; clear O4 B4)
  refine bodyPost_ret (v := .agg #[.slice A4 (Pl.unionOf za zb).length k4]) (by simp [results, Try.results33, go_sem, r4]) rfl ⟨A4, k4, rfl, ?_, BB4.out.setCell (by show w.heap.size ≤ w.heap.size + 1 + 1; omega) _⟩
  have h1 := Own.far (p := ⟨w.heap.size + 1 + 1, 0, none⟩) I4.out (by left; exact ls) (.slice A4 (Pl.unionOf za zb).length k4)
  exact Own.mono h1 BZ.out.size (by simp [World.setCell]) (Nat.le_refl _)
set_option maxHeartbeats 4000000 in
theorem specCommonOf (A B : Option Addr) (n m c d : Nat) (za zb : List Pl.R) (w : World) (HA : RArg w A za) (HB : RArg w B zb) (hn : za.length = n) (hm : zb.length = m) (hb : n ≤ 9223372036854775807) (hb2 : m ≤ 9223372036854775807) : Calls Try.prog 35 #[.agg #[.slice A n c], .agg #[.slice B m d]] w (NewReg (Pl.commonOf za zb) w) := by
  have HN := Lib.hid hn
  have HM := Lib.hid hm
  have HL := Lib.hid HA
  have HK := Lib.hid HB
  clear HA HB hn hm
  go_enter Try.func35, Try.ntmps35
  go_upto_region 1 with fail
  have V1 := Lib.hid (((VB.new (w := w) (b := w.heap.size) (t := 29) (cs := [.slice A n c]) rfl).alloc (.cells #[.slice B m d] 29 (0, 0))).alloc (.cells #[.slice none 0 0] 29 (0, 0)))
  have V2 := Lib.hid ((VB.new (w := w.alloc (.cells #[.slice A n c] 29 (0, 0))) (b := w.heap.size + 1) (t := 29) (cs := [.slice B m d]) (by simp)).alloc (.cells #[.slice none 0 0] 29 (0, 0)))
  have VR := Lib.hid (VB.new (w := (w.alloc (.cells #[.slice A n c] 29 (0, 0))).alloc (.cells #[.slice B m d] 29 (0, 0))) (b := w.heap.size + 1 + 1) (t := 29) (cs := [.slice none 0 0]) (by simp))
  have BZ : Hid (Below w.heap.size w (((w.alloc (.cells #[.slice A n c] 29 (0, 0))).alloc (.cells #[.slice B m d] 29 (0, 0))).alloc (.cells #[.slice none 0 0] 29 (0, 0)))) := Lib.hid (by go_grown)
  generalize ((w.alloc (.cells #[.slice A n c] 29 (0, 0))).alloc (.cells #[.slice B m d] 29 (0, 0))).alloc (.cells #[.slice none 0 0] 29 (0, 0)) = wv at *
  obtain ⟨l1, c1, f1⟩ := V1.out.open1
  obtain ⟨l2, c2, f2⟩ := V2.out.open1
  go_wp2_with (go_at_call 59; ((with_reducible refine (l03JoinAnd A B n m c d za zb _ (HL.out.below BZ.out) (HK.out.below BZ.out) HN.out HM.out hb hb2).mono ?_)); rintro e w4 ⟨A4, k4, rfl, O4, B4⟩; have I4 := Lib.hid O4; have VR4 := Lib.hid (VR.out.step B4); have BB4 := Lib.hid (later BZ.out B4); obtain ⟨l4, r4, f4⟩ := VR4.out.open1; have ls := VR.out.lt; clear O4 B4)
  refine bodyPost_ret (v := .agg #[.slice A4 (Pl.commonOf za zb).length k4]) (by simp [results, Try.results35, go_sem, r4]) rfl ⟨A4, k4, rfl, ?_, BB4.out.setCell (by show w.heap.size ≤ w.heap.size + 1 + 1; omega) _⟩
  have h1 := Own.far (p := ⟨w.heap.size + 1 + 1, 0, none⟩) I4.out (by left; exact ls) (.slice A4 (Pl.commonOf za zb).length k4)
  exact Own.mono h1 BZ.out.size (by simp [World.setCell]) (Nat.le_refl _)
set_option maxHeartbeats 4000000 in
theorem specWithoutOf (A B : Option Addr) (n m c d : Nat) (za zb : List Pl.R) (w : World) (HA : RArg w A za) (HB : RArg w B zb) (hn : za.length = n) (hm : zb.length = m) (hb : n ≤ 9223372036854775807) (hb2 : m ≤ 9223372036854775807) : Calls Try.prog 37 #[.agg #[.slice A n c], .agg #[.slice B m d]] w (NewReg (Pl.withoutOf za zb) w) := by
  have HN := Lib.hid hn
  have HM := Lib.hid hm
  have HL := Lib.hid HA
  have HK := Lib.hid HB
  clear HA HB hn hm
  go_enter Try.func37, Try.ntmps37
  go_upto_region 1 with fail
  have V1 := Lib.hid (((VB.new (w := w) (b := w.heap.size) (t := 29) (cs := [.slice A n c]) rfl).alloc (.cells #[.slice B m d] 29 (0, 0))).alloc (.cells #[.slice none 0 0] 29 (0, 0)))
  have V2 := Lib.hid ((VB.new (w := w.alloc (.cells #[.slice A n c] 29 (0, 0))) (b := w.heap.size + 1) (t := 29) (cs := [.slice B m d]) (by simp)).alloc (.cells #[.slice none 0 0] 29 (0, 0)))
  have VR := Lib.hid (VB.new (w := (w.alloc (.cells #[.slice A n c] 29 (0, 0))).alloc (.cells #[.slice B m d] 29 (0, 0))) (b := w.heap.size + 1 + 1) (t := 29) (cs := [.slice none 0 0]) (by simp))
  have BZ : Hid (Below w.heap.size w (((w.alloc (.cells #[.slice A n c] 29 (0, 0))).alloc (.cells #[.slice B m d] 29 (0, 0))).alloc (.cells #[.slice none 0 0] 29 (0, 0)))) := Lib.hid (by go_grown)
  generalize ((w.alloc (.cells #[.slice A n c] 29 (0, 0))).alloc (.cells #[.slice B m d] 29 (0, 0))).alloc (.cells #[.slice none 0 0] 29 (0, 0)) = wv at *
  obtain ⟨l1, c1, f1⟩ := V1.out.open1
  obtain ⟨l2, c2, f2⟩ := V2.out.open1
  go_wp2_with (go_at_call 59; ((with_reducible refine (l03JoinNot A B n m c d za zb _ (HL.out.below BZ.out) (HK.out.below BZ.out) HN.out HM.out hb hb2).mono ?_)); rintro e w4 ⟨A4, k4, rfl, O4, B4⟩; have I4 := Lib.hid O4; have VR4 := Lib.hid (VR.out.step B4); have BB4 := Lib.hid (later BZ.out B4); obtain ⟨l4, r4, f4⟩ := VR4.out.open1; have ls := VR.out.lt; clear O4 B4)
  refine bodyPost_ret (v := .agg #[.slice A4 (Pl.withoutOf za zb).length k4]) (by simp [results, Try.results37, go_sem, r4]) rfl ⟨A4, k4, rfl, ?_, BB4.out.setCell (by show w.heap.size ≤ w.heap.size + 1 + 1; omega) _⟩
  have h1 := Own.far (p := ⟨w.heap.size + 1 + 1, 0, none⟩) I4.out (by left; exact ls) (.slice A4 (Pl.withoutOf za zb).length k4)
  exact Own.mono h1 BZ.out.size (by simp [World.setCell]) (Nat.le_refl _)
set_option maxHeartbeats 4000000 in
theorem specBoundsOf (A : Option Addr) (n c : Nat) (zs : List Pl.R) (w : World) (HA : RArg w A zs) (hn : zs.length = n) (hb : n ≤ 9223372036854775807) : Calls Try.prog 30 #[.agg #[.slice A n c]] w fun e w' => e = .returned (.agg #[.int .i64 (Pl.boundsOf zs).x, .int .i64 (Pl.boundsOf zs).y, .int .i64 (Pl.boundsOf zs).w, .int .i64 (Pl.boundsOf zs).h]) ∧ Below w.heap.size w w' := by
  have HN := Lib.hid hn
  have HL := Lib.hid HA
  clear HA hn
  go_enter Try.func30, Try.ntmps30
  go_upto_region 2 with fail
  have VZ := Lib.hid (((VB.new (w := w) (b := w.heap.size) (t := 29) (cs := [.slice A n c]) rfl).alloc (.cells #[.int .i64 0, .int .i64 0, .int .i64 0, .int .i64 0] 44 (0, 0))).alloc (.cells #[.int .i64 0, .int .i64 0, .int .i64 0, .int .i64 0] 44 (0, 0)))
  have VR := Lib.hid ((VB.new (w := w.alloc (.cells #[.slice A n c] 29 (0, 0))) (b := w.heap.size + 1) (t := 44) (cs := [.int .i64 0, .int .i64 0, .int .i64 0, .int .i64 0]) (by simp)).alloc (.cells #[.int .i64 0, .int .i64 0, .int .i64 0, .int .i64 0] 44 (0, 0)))
  have VO := Lib.hid (VB.new (w := (w.alloc (.cells #[.slice A n c] 29 (0, 0))).alloc (.cells #[.int .i64 0, .int .i64 0, .int .i64 0, .int .i64 0] 44 (0, 0))) (b := w.heap.size + 1 + 1) (t := 44) (cs := [.int .i64 0, .int .i64 0, .int .i64 0, .int .i64 0]) (by simp))
  have BZ : Hid (Below w.heap.size w (((w.alloc (.cells #[.slice A n c] 29 (0, 0))).alloc (.cells #[.int .i64 0, .int .i64 0, .int .i64 0, .int .i64 0] 44 (0, 0))).alloc (.cells #[.int .i64 0, .int .i64 0, .int .i64 0, .int .i64 0] 44 (0, 0)))) := Lib.hid (by go_grown)
  generalize (((w.alloc (.cells #[.slice A n c] 29 (0, 0))).alloc (.cells #[.int .i64 0, .int .i64 0, .int .i64 0, .int .i64 0] 44 (0, 0))).alloc (.cells #[.int .i64 0, .int .i64 0, .int .i64 0, .int .i64 0] 44 (0, 0))) = wv at *
  cases hrk : Pl.regionOk zs
  · go_wp2_with fail
    go_loopw [4] (fun sk wr => sk = .int .i64 0 ∧ Hid (VB wr w.heap.size [.slice A n c]) ∧ Hid (VB wr (w.heap.size + 1) [.int .i64 0, .int .i64 0, .int .i64 0, .int .i64 0]) ∧ Hid (VB wr (w.heap.size + 1 + 1) [.int .i64 0, .int .i64 0, .int .i64 0, .int .i64 0]) ∧ Hid (Below w.heap.size w wr)) (fun _ _ => 0)
    case atStart => exact ⟨rfl, VZ, VR, VO, BZ⟩
    case round =>
      obtain ⟨rfl, hV, hR, hO, hB⟩ := hrel
      obtain ⟨l1, c1, f1⟩ := hV.out.open1
      have e : Pl.boundsOf zs = Pl.R.zero := by simp [Pl.boundsOf, hrk]
      have E := Lib.hid e
      clear e
      by_cases hlt : 0 < n
      · have kp1 : (0 : Int) < n := by omega
        go_wp2_with (go_at_call 14; ((with_reducible refine (specRegionOk A n c zs _ (HL.out.below hB.out) HN.out hb).mono ?_)); rw [hrk]; rintro e w9 ⟨rfl, B9⟩; have VR9 := Lib.hid (hR.out.step B9); have VO9 := Lib.hid (hO.out.step B9); have BB9 := Lib.hid (later hB.out B9); obtain ⟨lr, r0, r1, r2, r3, fr0, fr1, fr2, fr3⟩ := VR9.out.open4; obtain ⟨lo, o0, o1, o2, o3, fo0, fo1, fo2, fo3⟩ := VO9.out.open4)
        exact bodyPost_ret (v := .agg #[.int .i64 0, .int .i64 0, .int .i64 0, .int .i64 0]) (by simp [results, Try.results30, go_sem, r0, r1, r2, r3]) rfl ⟨by rw [E.out]; rfl, (((BB9.out.setCell (by simp) _).setCell (by simp) _).setCell (by simp) _).setCell (by simp) _⟩
      · obtain rfl : n = 0 := by omega
        obtain ⟨lr, r0, r1, r2, r3, fr0, fr1, fr2, fr3⟩ := hR.out.open4
        obtain ⟨lo, o0, o1, o2, o3, fo0, fo1, fo2, fo3⟩ := hO.out.open4
        go_wp2_with fail
        exact bodyPost_ret (v := .agg #[.int .i64 0, .int .i64 0, .int .i64 0, .int .i64 0]) (by simp [results, Try.results30, go_sem, r0, r1, r2, r3]) rfl ⟨by rw [E.out]; rfl, (((hB.out.setCell (by simp) _).setCell (by simp) _).setCell (by simp) _).setCell (by simp) _⟩
  · go_wp2_with fail
    go_loopw [4] (fun sk wr => ∃ k : Nat, k ≤ n ∧ sk = .int .i64 k ∧ Hid (VB wr w.heap.size [.slice A n c]) ∧ Hid (VB wr (w.heap.size + 1) [.int .i64 0, .int .i64 0, .int .i64 0, .int .i64 0]) ∧ Hid (VB wr (w.heap.size + 1 + 1) (rc (Pl.boundsL (zs.take k)))) ∧ Hid (Below w.heap.size w wr)) (fun sk _ => n - (intOf sk).toNat)
    case atStart => exact ⟨0, by omega, rfl, VZ, VR, VO, BZ⟩
    case round =>
      obtain ⟨wo, rfl⟩ : ∃ wo : World, wo = wr := ⟨_, rfl⟩
      obtain ⟨k, hk, rfl, hV, hR, hO, hB⟩ := hrel
      have kp0 : (0 : Int) ≤ (k : Int) := Int.natCast_nonneg _
      obtain ⟨l1, c1, f1⟩ := hV.out.open1
      by_cases hlt : k < n
      · have kp1 : (k : Int) < n := by omega
        obtain ⟨g1, o1, z, rfl, lg, hz, p0, p1, p2, p3⟩ := (HL.out.below hB.out).at_ HN.out hlt
        have HT := Lib.hid (Pl.boundsL_take hz)
        clear hz
        obtain ⟨q, hq⟩ : ∃ q, q = Pl.boundsL (zs.take k) := ⟨_, rfl⟩
        rw [← hq] at hO HT
        clear hq
        go_wp2_with (go_at_call 14; ((with_reducible refine (specRegionOk (some ⟨g1, o1, none⟩) n c zs _ (HL.out.below hB.out) HN.out hb).mono ?_)); rw [hrk]; rintro e w9 ⟨rfl, B9⟩; have V9 := Lib.hid (hV.out.step B9); have R9 := Lib.hid (hR.out.step B9); have O9 := Lib.hid (hO.out.step B9); have BB9 := Lib.hid (later hB.out B9); have k9 := (keepc B9 g1 lg).1; have kk0 := (k9 _).trans p0; have kk1 := (k9 _).trans p1; have kk2 := (k9 _).trans p2; have kk3 := (k9 _).trans p3; have lg9 : g1 < w9.heap.size := Nat.lt_of_lt_of_le lg B9.size; obtain ⟨l9, c9, f9⟩ := V9.out.open1; obtain ⟨l8, c80, c81, c82, c83, f80, f81, f82, f83⟩ := VB.open4 (show VB w9 (w.heap.size + 1 + 1) [.int .i64 q.x, .int .i64 q.y, .int .i64 q.w, .int .i64 q.h] from O9.out); clear k9 B9)
        refine regionL (S := (fun w' => w'.cell? ⟨w.heap.size, 0, none⟩ = some (.slice (some ⟨g1, o1, none⟩) n c) ∧ w'.cell? ⟨w.heap.size + 1 + 1, 0, none⟩ = some (.int .i64 q.x) ∧ w'.cell? ⟨w.heap.size + 1 + 1, 1, none⟩ = some (.int .i64 q.y) ∧ w'.cell? ⟨w.heap.size + 1 + 1, 2, none⟩ = some (.int .i64 q.w) ∧ w'.cell? ⟨w.heap.size + 1 + 1, 3, none⟩ = some (.int .i64 q.h) ∧ w'.cell? ⟨g1, o1 + k * 4, none⟩ = some (.int .i64 z.x) ∧ w'.cell? ⟨g1, o1 + k * 4 + 1, none⟩ = some (.int .i64 z.y) ∧ w'.cell? ⟨g1, o1 + k * 4 + 2, none⟩ = some (.int .i64 z.w) ∧ w'.cell? ⟨g1, o1 + k * 4 + 3, none⟩ = some (.int .i64 z.h))) (L := 7) (by kernel_rfl) ?_ (fun hHeld => ?_)
        · (((try dsimp only); (repeat' apply And.intro) <;> (first | (simp only [World.cell?_drew, *]; done) | (simp (disch := (first | omega | (simp; omega))) only [cell_far, cell_old, World.cell?_drew, *]; done))))
        refine takeL (i := 0) (oi := ?_) (v := ?_) ?_ (by kernel_rfl) (by kernel_rfl) (by kernel_rfl) (by kernel_rfl) ?_ (Or.inl ⟨?_, ?_⟩) (by assumption) ?_
        rotate_left 2
        · (simp only [List.getElem?_toArray, List.getElem?_cons_succ, List.getElem?_cons_zero]; rfl)
        · exact fun _ _ _ h => h
        · rfl
        · (intro w hSw; (try dsimp only at hSw); go_simp; (try with_reducible rfl))
        try simp only [Act.put, List.setIfInBounds_toArray, List.set_cons_zero, List.set_cons_succ]
        refine takeL (i := 1) (oi := ?_) (v := ?_) ?_ (by kernel_rfl) (by kernel_rfl) (by kernel_rfl) (by kernel_rfl) ?_ (Or.inl ⟨?_, ?_⟩) (by assumption) ?_
        rotate_left 2
        · (simp only [List.getElem?_toArray, List.getElem?_cons_succ, List.getElem?_cons_zero]; rfl)
        · exact fun _ _ _ h => h
        · rfl
        · (intro w hSw; (try dsimp only at hSw); go_simp; (try with_reducible rfl))
        try simp only [Act.put, List.setIfInBounds_toArray, List.set_cons_zero, List.set_cons_succ]
        refine takeL (i := 2) (oi := ?_) (v := ?_) ?_ (by kernel_rfl) (by kernel_rfl) (by kernel_rfl) (by kernel_rfl) ?_ (Or.inl ⟨?_, ?_⟩) (by assumption) ?_
        rotate_left 2
        · (simp only [List.getElem?_toArray, List.getElem?_cons_succ, List.getElem?_cons_zero]; rfl)
        · exact fun _ _ _ h => h
        · rfl
        · (intro w hSw; (try dsimp only at hSw); go_simp; (try with_reducible rfl))
        try simp only [Act.put, List.setIfInBounds_toArray, List.set_cons_zero, List.set_cons_succ]
        refine takeL (i := 3) (oi := ?_) (v := ?_) ?_ (by kernel_rfl) (by kernel_rfl) (by kernel_rfl) (by kernel_rfl) ?_ (Or.inl ⟨?_, ?_⟩) (by assumption) ?_
        rotate_left 2
        · (simp only [List.getElem?_toArray, List.getElem?_cons_succ, List.getElem?_cons_zero]; rfl)
        · exact fun _ _ _ h => h
        · rfl
        · (intro w hSw; (try dsimp only at hSw); go_simp; (try with_reducible rfl))
        try simp only [Act.put, List.setIfInBounds_toArray, List.set_cons_zero, List.set_cons_succ]
        refine takeL (i := 4) (oi := ?_) (v := ?_) ?_ (by kernel_rfl) (by kernel_rfl) (by kernel_rfl) (by kernel_rfl) ?_ (Or.inl ⟨?_, ?_⟩) (by assumption) ?_
        rotate_left 2
        · (simp only [List.getElem?_toArray, List.getElem?_cons_succ, List.getElem?_cons_zero]; rfl)
        · exact fun _ _ _ h => h
        · rfl
        · (intro w hSw; (try dsimp only at hSw); go_simp; (try with_reducible rfl))
        try simp only [Act.put, List.setIfInBounds_toArray, List.set_cons_zero, List.set_cons_succ]
        refine takeL (i := 5) (oi := ?_) (v := ?_) ?_ (by kernel_rfl) (by kernel_rfl) (by kernel_rfl) (by kernel_rfl) ?_ (Or.inl ⟨?_, ?_⟩) (by assumption) ?_
        rotate_left 2
        · (simp only [List.getElem?_toArray, List.getElem?_cons_succ, List.getElem?_cons_zero]; rfl)
        · exact fun _ _ _ h => h
        · rfl
        · (intro w hSw; (try dsimp only at hSw); go_simp; (try with_reducible rfl))
        try simp only [Act.put, List.setIfInBounds_toArray, List.set_cons_zero, List.set_cons_succ]
        refine readyL (rs := [6]) (by kernel_rfl) (by simp) ?_
        refine AllReadyL.cons (o := ?_) ?_ (fun K hK => ?_) AllReadyL.none_
        rotate_left
        · (simp only [List.getElem?_toArray, List.getElem?_cons_succ, List.getElem?_cons_zero]; rfl)
        go_simp
        go_at_call 57
        ((with_reducible refine (specBounds q.x q.y q.w q.h z.x z.y z.w z.h _).mono ?_))
        rw [show (Pl.R.mk q.x q.y q.w q.h) = q from rfl, show (Pl.R.mk z.x z.y z.w z.h) = z from rfl]
        rintro e w5 ⟨rfl, B5⟩
        have ⟨k1, _⟩ := keepc B5 g1 (by simp; omega)
        have ⟨k2, _⟩ := keepc B5 w.heap.size (by simp; omega)
        have ⟨k3, f3⟩ := keepc B5 (w.heap.size + 1 + 1) (by simp; omega)
        have V5 := Lib.hid (VB.step (VB.drew V9.out) B5)
        have R5 := Lib.hid (VB.step (VB.drew R9.out) B5)
        have O5 := Lib.hid (VB.step (VB.drew O9.out) B5)
        have BB5 := Lib.hid (later (Below.drew BB9.out) B5)
        obtain ⟨l5, c50, c51, c52, c53, f50, f51, f52, f53⟩ := VB.open4 (show VB w5 (w.heap.size + 1 + 1) [.int .i64 q.x, .int .i64 q.y, .int .i64 q.w, .int .i64 q.h] from O5.out)
        refine hK.out _ _ ?_ (fun hHeld => ?_)
        · (((try dsimp only); (repeat' apply And.intro) <;> (first | (simp only [World.cell?_drew, *]; done) | (simp (disch := (first | omega | (simp; omega))) only [cell_far, cell_old, World.cell?_drew, *]; done))))
        clear hK K
        try simp only [Act.put, List.setIfInBounds_toArray, List.set_cons_zero, List.set_cons_succ]
        refine readyL (rs := [7]) (by kernel_rfl) (by simp) ?_
        refine AllReadyL.last (o := ?_) ?_ (fun K hK => ?_)
        rotate_left
        · (simp only [List.getElem?_toArray, List.getElem?_cons_succ, List.getElem?_cons_zero]; rfl)
        go_simp
        refine hK.out _ _ ?_
        clear hK K
        try simp only [Act.put, List.setIfInBounds_toArray, List.set_cons_zero, List.set_cons_succ]
        refine doneL (by kernel_rfl) ?_ _
        go_wp2_with fail
        go_roundw
        case rel => exact ⟨k + 1, by omega, by go_num, Lib.hid ((((V5.out.far _ _ (by show w.heap.size ≠ w.heap.size + 1 + 1; omega)).far _ _ (by show w.heap.size ≠ w.heap.size + 1 + 1; omega)).far _ _ (by show w.heap.size ≠ w.heap.size + 1 + 1; omega)).far _ _ (by show w.heap.size ≠ w.heap.size + 1 + 1; omega)), Lib.hid ((((R5.out.far _ _ (by show w.heap.size + 1 ≠ w.heap.size + 1 + 1; omega)).far _ _ (by show w.heap.size + 1 ≠ w.heap.size + 1 + 1; omega)).far _ _ (by show w.heap.size + 1 ≠ w.heap.size + 1 + 1; omega)).far _ _ (by show w.heap.size + 1 ≠ w.heap.size + 1 + 1; omega)), Lib.hid (by rw [HT.out]; exact VB.set4 (show VB w5 (w.heap.size + 1 + 1) [.int .i64 q.x, .int .i64 q.y, .int .i64 q.w, .int .i64 q.h] from O5.out) _ _ _ _), Lib.hid ((((BB5.out.setCell (by show w.heap.size ≤ w.heap.size + 1 + 1; omega) _).setCell (by show w.heap.size ≤ w.heap.size + 1 + 1; omega) _).setCell (by show w.heap.size ≤ w.heap.size + 1 + 1; omega) _).setCell (by show w.heap.size ≤ w.heap.size + 1 + 1; omega) _)⟩
        case measure => simp [intOf]; omega
      · obtain rfl : k = n := by omega
        have e : zs.take k = zs := List.take_of_length_le (by rw [HN.out]; exact Nat.le_refl _)
        have e2 : Pl.boundsOf zs = Pl.boundsL zs := by simp [Pl.boundsOf, hrk]
        rw [e] at hO
        have E2 := Lib.hid e2
        clear e2
        generalize Pl.boundsL zs = q at *
        obtain ⟨lo, o0, o1, o2, o3, fo0, fo1, fo2, fo3⟩ := VB.open4 (show VB wo (w.heap.size + 1 + 1) [.int .i64 q.x, .int .i64 q.y, .int .i64 q.w, .int .i64 q.h] from hO.out)
        obtain ⟨lr, r0, r1, r2, r3, fr0, fr1, fr2, fr3⟩ := hR.out.open4
        go_wp2_with fail
        exact bodyPost_ret (v := .agg #[.int .i64 q.x, .int .i64 q.y, .int .i64 q.w, .int .i64 q.h]) (by simp [results, Try.results30, go_sem, r0, r1, r2, r3]) rfl ⟨by rw [E2.out], (((hB.out.setCell (by simp) _).setCell (by simp) _).setCell (by simp) _).setCell (by simp) _⟩
end Go.Proofs.Ytlnailpefdlnnaa
