/- Contracts of the laws' draws: DrawSplitFields, some text of at most 1000 bytes. -/
import Derived.Test.YtepjjlaipindnaaDoorTxD
namespace Go.Proofs.YtepjjlaipindnaaDoor
open Go.RowKit Go.Instr
set_option linter.unusedVariables false
set_option linter.unusedSimpArgs false
theorem text_sum (s t : ByteArray) : (s ++ t).size = s.size + t.size := by simp
def odd6 : List (List UInt8) := [[32], [32, 32], [9], [10], [127], [233]]
set_option maxRecDepth 100000 in
set_option maxHeartbeats 8000000 in
theorem drawLine (a : Option Addr) (len cap : Nat) (zs : List Int) (w : World) (hr : IsRow .u8 w a len cap zs) (hl : len ≤ 1048576) : Calls Tryd.prog 10 #[.slice a len cap] w (SomeText 1000 w) := by
  have HR := Lib.hid hr
  clear hr
  go_enter Tryd.func10, Tryd.ntmps10
  go_wp2_with fail
  refine (l01New_any a len cap zs _ HR.out hl).mono ?_
  rintro e w1 ⟨g, rfl, hg, C1, hb1, hs1⟩
  have D1 := Lib.hid C1
  have HG := Lib.hid hg
  have B1 := Lib.hid hb1
  have lt1 := C1.lt
  have P1 : Hid (Out g (g + 1) w1 w1) := Lib.hid (Out.refl _ _ _)
  clear C1 hg hs1 hb1
  go_wp2_with fail
  refine (l01Below_any g a len cap zs _ _ D1.out (by omega) (by omega)).mono ?_
  rintro e v1 ⟨v, ⟨x, x0, x1, rfl⟩, rfl, Cv1, Ov1⟩
  have Dv1 := Lib.hid Cv1
  have Pv1 := Lib.hid (P1.out.trans Ov1)
  have zv1 := Ov1.size
  clear Cv1 Ov1
  go_wp2_with fail
  refine (l01Once_any g a len cap zs _ _ Dv1.out (by omega) (by omega)).mono ?_
  rintro e v2 ⟨v, ⟨b, rfl⟩, rfl, Cv2, Ov2⟩
  have Dv2 := Lib.hid Cv2
  have Pv2 := Lib.hid (Pv1.out.trans Ov2)
  have zv2 := Ov2.size
  clear Cv2 Ov2
  cases b
  case true =>
    go_wp2_with fail
    refine (l01Below_any g a len cap zs _ _ Dv2.out (by omega) (by omega)).mono ?_
    rintro e v3 ⟨v, ⟨u, u0, u1, rfl⟩, rfl, Cv3, Ov3⟩
    have Dv3 := Lib.hid Cv3
    have Pv3 := Lib.hid (Pv2.out.trans Ov3)
    have zv3 := Ov3.size
    clear Cv3 Ov3
    obtain ⟨N0, rfl⟩ := Int.eq_ofNat_of_zero_le u0
    have hw : IntKind.i64.wrap (24 + (N0 : Int)) = 24 + (N0 : Int) := IntWalk.i64_in _ ⟨by omega, by omega⟩
    obtain ⟨N, hN⟩ : ∃ N, 24 + N0 = N := ⟨_, rfl⟩
    have hNi : 24 + (N0 : Int) = (N : Int) := by omega
    have hN25 : N ≤ 25 := by omega
    rw [hNi] at hw
    have hw2 : IntKind.i64.wrap (N : Int) = (N : Int) := hw
    clear hN
    go_wp2_with fail
    go_loopw [6, 5] (fun iv sv wr => ∃ (k : Nat) (s : ByteArray), k ≤ N ∧ iv = .int .i64 k ∧ sv = .string s ∧ s.size ≤ 8 * k ∧ Hid (Cursor wr g a len cap zs) ∧ Hid (Out g (g + 1) w1 wr)) (fun iv _ _ => N - (intOf iv).toNat)
    case atStart => exact ⟨0, ⟨#[]⟩, by omega, rfl, rfl, by show 0 ≤ _; omega, Dv3, Pv3⟩
    case round =>
      obtain ⟨k, s, hk, rfl, rfl, hs, HC, HP⟩ := hrel
      have kp0 : (0 : Int) ≤ (k : Int) := Int.natCast_nonneg _
      by_cases hlt : k < N
      case pos =>
        have kp1 : (k : Int) < N := by omega
        by_cases hk0 : 0 < k
        case pos =>
          have hk0i : (0 : Int) < k := by omega
          go_wp2_with fail
          refine (l01Below_any g a len cap zs _ _ HC.out (by omega) (by omega)).mono ?_
          rintro e v4 ⟨v, ⟨y, y0, y1, rfl⟩, rfl, Cv4, Ov4⟩
          have Dv4 := Lib.hid Cv4
          have Pv4 := Lib.hid (HP.out.trans Ov4)
          have zv4 := Ov4.size
          clear Cv4 Ov4
          go_wp2_with fail
          refine (l01Below_any g a len cap zs _ _ Dv4.out (by omega) (by omega)).mono ?_
          rintro e v5 ⟨v, ⟨u, u0, u1, rfl⟩, rfl, Cv5, Ov5⟩
          have Dv5 := Lib.hid Cv5
          have Pv5 := Lib.hid (Pv4.out.trans Ov5)
          have zv5 := Ov5.size
          clear Cv5 Ov5
          have m1 : y * u ≤ 1 * u := Int.mul_le_mul_of_nonneg_right (by omega) u0
          have m2 : 0 ≤ y * u := Int.mul_nonneg y0 u0
          have m3 : IntKind.i64.wrap (y * u) = y * u := IntWalk.i64_in _ ⟨by omega, by omega⟩
          have m4 : IntKind.i64.wrap (1 + y * u) = 1 + y * u := IntWalk.i64_in _ ⟨by omega, by omega⟩
          obtain ⟨q, hq⟩ : ∃ q, y * u = q := ⟨_, rfl⟩
          rw [hq] at m1 m2 m3 m4
          obtain ⟨Q, rfl⟩ := Int.eq_ofNat_of_zero_le m2
          go_wp2_with fail
          refine (l01Long_any _ (1 + Q) (by omega) (by omega) _ 32 rfl _).mono ?_
          rintro e v6 ⟨sp, hsp, rfl, Bv6⟩
          have Dv6 := Lib.hid (Dv5.out.below Bv6 Dv5.out.lt)
          have Pv6 := Lib.hid (Pv5.out.trans (Out.of_below Bv6 _ _))
          have zv6 := Bv6.size
          clear Bv6
          clear hq
          have hadd := fun w => run_string_add_sum (P := Tryd.prog) w s sp (by omega)
          obtain ⟨s2, hs2⟩ : ∃ s2 : ByteArray, s ++ sp = s2 := ⟨_, rfl⟩
          have hzs2 : s2.size = s.size + sp.size := by rw [← hs2, text_sum]
          simp only [hs2] at hadd
          clear hs2
          go_wp2_with fail
          go_loopw [7, 5] (fun kv sv wq => ∃ (j : Nat) (t : ByteArray), j ≤ 5 ∧ kv = .int .i64 j ∧ sv = .string t ∧ t.size ≤ 8 * k + 3 + j ∧ Hid (Cursor wq g a len cap zs) ∧ Hid (Out g (g + 1) w1 wq)) (fun kv _ _ => 5 - (intOf kv).toNat)
          case atStart => exact ⟨0, s2, by omega, rfl, rfl, by omega, Dv6, Pv6⟩
          case round =>
            obtain ⟨j, t, hj, rfl, rfl, ht, HCj, HPj⟩ := hrel
            have jp0 : (0 : Int) ≤ (j : Int) := Int.natCast_nonneg _
            go_wp2_with fail
            refine (l01Below_any g a len cap zs _ _ HCj.out (by omega) (by omega)).mono ?_
            rintro e v7 ⟨v, ⟨p, p0, p1, rfl⟩, rfl, Cv7, Ov7⟩
            have Dv7 := Lib.hid Cv7
            have Pv7 := Lib.hid (HPj.out.trans Ov7)
            have zv7 := Ov7.size
            clear Cv7 Ov7
            by_cases hjp : (j : Int) ≤ p
            case pos =>
              go_wp2_with fail
              refine (l01Below_any g a len cap zs _ _ Dv7.out (by omega) (by omega)).mono ?_
              rintro e v8 ⟨v, ⟨c, c0, c1, rfl⟩, rfl, Cv8, Ov8⟩
              have Dv8 := Lib.hid Cv8
              have Pv8 := Lib.hid (Pv7.out.trans Ov8)
              have zv8 := Ov8.size
              clear Cv8 Ov8
              obtain ⟨b, hb⟩ := byte_of (x := 33 + c) (by omega) (by omega)
              have hc := text_one v8 (33 + c) b hb
              have wr1 : IntKind.i64.wrap (33 + c) = 33 + c := IntWalk.i64_in _ ⟨by omega, by omega⟩
              have wr2 : IntKind.u8.wrap (33 + c) = 33 + c := IntWalk.u8_in _ ⟨by omega, by omega⟩
              clear hb
              have hb1 : (⟨#[b]⟩ : ByteArray).size = 1 := rfl
              obtain ⟨bb, hbb⟩ : ∃ bb : ByteArray, (⟨#[b]⟩ : ByteArray) = bb := ⟨_, rfl⟩
              rw [hbb] at hc hb1
              clear hbb
              have hadd := fun w => run_string_add_sum (P := Tryd.prog) w t bb (by omega)
              obtain ⟨t2, ht2⟩ : ∃ t2 : ByteArray, t ++ bb = t2 := ⟨_, rfl⟩
              have hzt2 : t2.size = t.size + bb.size := by rw [← ht2, text_sum]
              simp only [ht2] at hadd
              clear ht2
              go_wp2_with fail
              go_roundw
              case rel => exact ⟨j + 1, t2, by omega, by go_num, rfl, by omega, Lib.hid (Dv8.out.alloc _), Lib.hid (Pv8.out.alloc _)⟩
              case measure => simp [intOf] <;> omega
            go_wp2_with fail
            go_roundw
            case rel => exact ⟨k + 1, t, by omega, by go_num, rfl, by omega, Dv7, Pv7⟩
            case measure => simp [intOf] <;> omega
        have hk0i : ¬ (0 : Int) < k := by omega
        go_wp2_with fail
        refine (l01Once_any g a len cap zs _ _ HC.out (by omega) (by omega)).mono ?_
        rintro e v9 ⟨v, ⟨c, rfl⟩, rfl, Cv9, Ov9⟩
        have Dv9 := Lib.hid Cv9
        have Pv9 := Lib.hid (HP.out.trans Ov9)
        have zv9 := Ov9.size
        clear Cv9 Ov9
        cases c
        case true =>
          go_wp2_with fail
          refine (l01Below_any g a len cap zs _ _ Dv9.out (by omega) (by omega)).mono ?_
          rintro e v10 ⟨v, ⟨y, y0, y1, rfl⟩, rfl, Cv10, Ov10⟩
          have Dv10 := Lib.hid Cv10
          have Pv10 := Lib.hid (Pv9.out.trans Ov10)
          have zv10 := Ov10.size
          clear Cv10 Ov10
          go_wp2_with fail
          refine (l01Below_any g a len cap zs _ _ Dv10.out (by omega) (by omega)).mono ?_
          rintro e v11 ⟨v, ⟨u, u0, u1, rfl⟩, rfl, Cv11, Ov11⟩
          have Dv11 := Lib.hid Cv11
          have Pv11 := Lib.hid (Pv10.out.trans Ov11)
          have zv11 := Ov11.size
          clear Cv11 Ov11
          have m1 : y * u ≤ 1 * u := Int.mul_le_mul_of_nonneg_right (by omega) u0
          have m2 : 0 ≤ y * u := Int.mul_nonneg y0 u0
          have m3 : IntKind.i64.wrap (y * u) = y * u := IntWalk.i64_in _ ⟨by omega, by omega⟩
          have m4 : IntKind.i64.wrap (1 + y * u) = 1 + y * u := IntWalk.i64_in _ ⟨by omega, by omega⟩
          obtain ⟨q, hq⟩ : ∃ q, y * u = q := ⟨_, rfl⟩
          rw [hq] at m1 m2 m3 m4
          obtain ⟨Q, rfl⟩ := Int.eq_ofNat_of_zero_le m2
          go_wp2_with fail
          refine (l01Long_any _ (1 + Q) (by omega) (by omega) _ 32 rfl _).mono ?_
          rintro e v12 ⟨sp, hsp, rfl, Bv12⟩
          have Dv12 := Lib.hid (Dv11.out.below Bv12 Dv11.out.lt)
          have Pv12 := Lib.hid (Pv11.out.trans (Out.of_below Bv12 _ _))
          have zv12 := Bv12.size
          clear Bv12
          clear hq
          have hadd := fun w => run_string_add_sum (P := Tryd.prog) w s sp (by omega)
          obtain ⟨s2, hs2⟩ : ∃ s2 : ByteArray, s ++ sp = s2 := ⟨_, rfl⟩
          have hzs2 : s2.size = s.size + sp.size := by rw [← hs2, text_sum]
          simp only [hs2] at hadd
          clear hs2
          go_wp2_with fail
          go_loopw [7, 5] (fun kv sv wq => ∃ (j : Nat) (t : ByteArray), j ≤ 5 ∧ kv = .int .i64 j ∧ sv = .string t ∧ t.size ≤ 8 * k + 3 + j ∧ Hid (Cursor wq g a len cap zs) ∧ Hid (Out g (g + 1) w1 wq)) (fun kv _ _ => 5 - (intOf kv).toNat)
          case atStart => exact ⟨0, s2, by omega, rfl, rfl, by omega, Dv12, Pv12⟩
          case round =>
            obtain ⟨j, t, hj, rfl, rfl, ht, HCj, HPj⟩ := hrel
            have jp0 : (0 : Int) ≤ (j : Int) := Int.natCast_nonneg _
            go_wp2_with fail
            refine (l01Below_any g a len cap zs _ _ HCj.out (by omega) (by omega)).mono ?_
            rintro e v13 ⟨v, ⟨p, p0, p1, rfl⟩, rfl, Cv13, Ov13⟩
            have Dv13 := Lib.hid Cv13
            have Pv13 := Lib.hid (HPj.out.trans Ov13)
            have zv13 := Ov13.size
            clear Cv13 Ov13
            by_cases hjp : (j : Int) ≤ p
            case pos =>
              go_wp2_with fail
              refine (l01Below_any g a len cap zs _ _ Dv13.out (by omega) (by omega)).mono ?_
              rintro e v14 ⟨v, ⟨c, c0, c1, rfl⟩, rfl, Cv14, Ov14⟩
              have Dv14 := Lib.hid Cv14
              have Pv14 := Lib.hid (Pv13.out.trans Ov14)
              have zv14 := Ov14.size
              clear Cv14 Ov14
              obtain ⟨b, hb⟩ := byte_of (x := 33 + c) (by omega) (by omega)
              have hc := text_one v14 (33 + c) b hb
              have wr1 : IntKind.i64.wrap (33 + c) = 33 + c := IntWalk.i64_in _ ⟨by omega, by omega⟩
              have wr2 : IntKind.u8.wrap (33 + c) = 33 + c := IntWalk.u8_in _ ⟨by omega, by omega⟩
              clear hb
              have hb1 : (⟨#[b]⟩ : ByteArray).size = 1 := rfl
              obtain ⟨bb, hbb⟩ : ∃ bb : ByteArray, (⟨#[b]⟩ : ByteArray) = bb := ⟨_, rfl⟩
              rw [hbb] at hc hb1
              clear hbb
              have hadd := fun w => run_string_add_sum (P := Tryd.prog) w t bb (by omega)
              obtain ⟨t2, ht2⟩ : ∃ t2 : ByteArray, t ++ bb = t2 := ⟨_, rfl⟩
              have hzt2 : t2.size = t.size + bb.size := by rw [← ht2, text_sum]
              simp only [ht2] at hadd
              clear ht2
              go_wp2_with fail
              go_roundw
              case rel => exact ⟨j + 1, t2, by omega, by go_num, rfl, by omega, Lib.hid (Dv14.out.alloc _), Lib.hid (Pv14.out.alloc _)⟩
              case measure => simp [intOf] <;> omega
            go_wp2_with fail
            go_roundw
            case rel => exact ⟨k + 1, t, by omega, by go_num, rfl, by omega, Dv13, Pv13⟩
            case measure => simp [intOf] <;> omega
        go_wp2_with fail
        go_loopw [7, 5] (fun kv sv wq => ∃ (j : Nat) (t : ByteArray), j ≤ 5 ∧ kv = .int .i64 j ∧ sv = .string t ∧ t.size ≤ 8 * k + 3 + j ∧ Hid (Cursor wq g a len cap zs) ∧ Hid (Out g (g + 1) w1 wq)) (fun kv _ _ => 5 - (intOf kv).toNat)
        case atStart => exact ⟨0, s, by omega, rfl, rfl, by omega, Dv9, Pv9⟩
        case round =>
          obtain ⟨j, t, hj, rfl, rfl, ht, HCj, HPj⟩ := hrel
          have jp0 : (0 : Int) ≤ (j : Int) := Int.natCast_nonneg _
          go_wp2_with fail
          refine (l01Below_any g a len cap zs _ _ HCj.out (by omega) (by omega)).mono ?_
          rintro e v15 ⟨v, ⟨p, p0, p1, rfl⟩, rfl, Cv15, Ov15⟩
          have Dv15 := Lib.hid Cv15
          have Pv15 := Lib.hid (HPj.out.trans Ov15)
          have zv15 := Ov15.size
          clear Cv15 Ov15
          by_cases hjp : (j : Int) ≤ p
          case pos =>
            go_wp2_with fail
            refine (l01Below_any g a len cap zs _ _ Dv15.out (by omega) (by omega)).mono ?_
            rintro e v16 ⟨v, ⟨c, c0, c1, rfl⟩, rfl, Cv16, Ov16⟩
            have Dv16 := Lib.hid Cv16
            have Pv16 := Lib.hid (Pv15.out.trans Ov16)
            have zv16 := Ov16.size
            clear Cv16 Ov16
            obtain ⟨b, hb⟩ := byte_of (x := 33 + c) (by omega) (by omega)
            have hc := text_one v16 (33 + c) b hb
            have wr1 : IntKind.i64.wrap (33 + c) = 33 + c := IntWalk.i64_in _ ⟨by omega, by omega⟩
            have wr2 : IntKind.u8.wrap (33 + c) = 33 + c := IntWalk.u8_in _ ⟨by omega, by omega⟩
            clear hb
            have hb1 : (⟨#[b]⟩ : ByteArray).size = 1 := rfl
            obtain ⟨bb, hbb⟩ : ∃ bb : ByteArray, (⟨#[b]⟩ : ByteArray) = bb := ⟨_, rfl⟩
            rw [hbb] at hc hb1
            clear hbb
            have hadd := fun w => run_string_add_sum (P := Tryd.prog) w t bb (by omega)
            obtain ⟨t2, ht2⟩ : ∃ t2 : ByteArray, t ++ bb = t2 := ⟨_, rfl⟩
            have hzt2 : t2.size = t.size + bb.size := by rw [← ht2, text_sum]
            simp only [ht2] at hadd
            clear ht2
            go_wp2_with fail
            go_roundw
            case rel => exact ⟨j + 1, t2, by omega, by go_num, rfl, by omega, Lib.hid (Dv16.out.alloc _), Lib.hid (Pv16.out.alloc _)⟩
            case measure => simp [intOf] <;> omega
          go_wp2_with fail
          go_roundw
          case rel => exact ⟨k + 1, t, by omega, by go_num, rfl, by omega, Dv15, Pv15⟩
          case measure => simp [intOf] <;> omega
      have kp1 : ¬ (k : Int) < N := by omega
      go_wp2_with fail
      refine (l01Below_any g a len cap zs _ _ HC.out (by omega) (by omega)).mono ?_
      rintro e v17 ⟨v, ⟨y, y0, y1, rfl⟩, rfl, Cv17, Ov17⟩
      have Dv17 := Lib.hid Cv17
      have Pv17 := Lib.hid (HP.out.trans Ov17)
      have zv17 := Ov17.size
      clear Cv17 Ov17
      have BB := Lib.hid (below_out B1.out Pv17.out (by have := HG.out; omega) B1.out.size)
      by_cases y0z : y = 0
      case pos =>
        subst y0z
        go_wp2_with fail
        refine (l01Pick_any g a len cap zs _ _ _ v17.heap.size (v17.heap.size + 1) odd6 _ (Dv17.out.alloc _) (Strs.lit v17 odd6 (by simp [odd6])) Dv17.out.lt rfl (by simp [odd6]) (by simp [odd6])).mono ?_
        rintro e w9 ⟨v, ⟨l9, h9, rfl⟩, rfl, C9, O9⟩
        have hl9 : l9.length ≤ 2 := by simp [odd6] at h9; rcases h9 with h | h | h | h | h | h <;> (rw [h]; simp)
        clear h9 C9
        obtain ⟨t9, ht9⟩ : ∃ t9 : ByteArray, (⟨l9.toArray⟩ : ByteArray) = t9 := ⟨_, rfl⟩
        rw [ht9]
        have hs9 : t9.size ≤ 2 := by rw [← ht9, ← size_list]; exact hl9
        clear ht9
        have B9 := Lib.hid (below_out (BB.out.alloc BB.out.size _) O9 (by have := HG.out; omega) (by have := BB.out.size; simp; omega))
        clear O9
        have hadd := fun w => run_string_add_sum (P := Tryd.prog) w s t9 (by omega)
        obtain ⟨r9, hr9⟩ : ∃ r9 : ByteArray, s ++ t9 = r9 := ⟨_, rfl⟩
        have hzr9 : r9.size = s.size + t9.size := by rw [← hr9, text_sum]
        simp only [hr9] at hadd
        clear hr9
        go_wp2_with fail
        go_ret
        exact ⟨r9, by omega, rfl, B9.out⟩
      have y0b : (y == 0) = false := by simpa using y0z
      by_cases y1z : y = 1
      case pos =>
        subst y1z
        have hs600 : (s.size : Int) < 600 := by omega
        have m5 : IntKind.i64.wrap (600 - (s.size : Int)) = 600 - (s.size : Int) := IntWalk.i64_in _ ⟨by omega, by omega⟩
        go_wp2_with fail
        refine (l01Below_any g a len cap zs _ _ Dv17.out (by omega) (by omega)).mono ?_
        rintro e v18 ⟨v, ⟨u, u0, u1, rfl⟩, rfl, Cv18, Ov18⟩
        have Dv18 := Lib.hid Cv18
        have Pv18 := Lib.hid (Pv17.out.trans Ov18)
        have zv18 := Ov18.size
        clear Cv18 Ov18
        have m6 : IntKind.i64.wrap (600 - (s.size : Int) + u) = 600 - (s.size : Int) + u := IntWalk.i64_in _ ⟨by omega, by omega⟩
        obtain ⟨Q, rfl⟩ := Int.eq_ofNat_of_zero_le u0
        go_wp2_with fail
        refine (l01Long_any _ (600 - s.size + Q) (by omega) (by omega) _ 32 rfl _).mono ?_
        rintro e v19 ⟨sp, hsp, rfl, Bv19⟩
        have Dv19 := Lib.hid (Dv18.out.below Bv19 Dv18.out.lt)
        have Pv19 := Lib.hid (Pv18.out.trans (Out.of_below Bv19 _ _))
        have zv19 := Bv19.size
        clear Bv19
        have hadd := fun w => run_string_add_sum (P := Tryd.prog) w s sp (by omega)
        obtain ⟨s2, hs2⟩ : ∃ s2 : ByteArray, s ++ sp = s2 := ⟨_, rfl⟩
        have hzs2 : s2.size = s.size + sp.size := by rw [← hs2, text_sum]
        simp only [hs2] at hadd
        clear hs2
        go_wp2_with fail
        go_ret
        exact ⟨s2, by omega, rfl, below_out B1.out Pv19.out (by have := HG.out; omega) B1.out.size⟩
      have y1b : (y == 1) = false := by simpa using y1z
      go_wp2_with fail
      go_ret
      exact ⟨s, by omega, rfl, BB.out⟩
  obtain ⟨N, rfl⟩ := Int.eq_ofNat_of_zero_le x0
  have hN25 : N ≤ 25 := by omega
  go_wp2_with fail
  go_loopw [6, 5] (fun iv sv wr => ∃ (k : Nat) (s : ByteArray), k ≤ N ∧ iv = .int .i64 k ∧ sv = .string s ∧ s.size ≤ 8 * k ∧ Hid (Cursor wr g a len cap zs) ∧ Hid (Out g (g + 1) w1 wr)) (fun iv _ _ => N - (intOf iv).toNat)
  case atStart => exact ⟨0, ⟨#[]⟩, by omega, rfl, rfl, by show 0 ≤ _; omega, Dv2, Pv2⟩
  case round =>
    obtain ⟨k, s, hk, rfl, rfl, hs, HC, HP⟩ := hrel
    have kp0 : (0 : Int) ≤ (k : Int) := Int.natCast_nonneg _
    by_cases hlt : k < N
    case pos =>
      have kp1 : (k : Int) < N := by omega
      by_cases hk0 : 0 < k
      case pos =>
        have hk0i : (0 : Int) < k := by omega
        go_wp2_with fail
        refine (l01Below_any g a len cap zs _ _ HC.out (by omega) (by omega)).mono ?_
        rintro e v20 ⟨v, ⟨y, y0, y1, rfl⟩, rfl, Cv20, Ov20⟩
        have Dv20 := Lib.hid Cv20
        have Pv20 := Lib.hid (HP.out.trans Ov20)
        have zv20 := Ov20.size
        clear Cv20 Ov20
        go_wp2_with fail
        refine (l01Below_any g a len cap zs _ _ Dv20.out (by omega) (by omega)).mono ?_
        rintro e v21 ⟨v, ⟨u, u0, u1, rfl⟩, rfl, Cv21, Ov21⟩
        have Dv21 := Lib.hid Cv21
        have Pv21 := Lib.hid (Pv20.out.trans Ov21)
        have zv21 := Ov21.size
        clear Cv21 Ov21
        have m1 : y * u ≤ 1 * u := Int.mul_le_mul_of_nonneg_right (by omega) u0
        have m2 : 0 ≤ y * u := Int.mul_nonneg y0 u0
        have m3 : IntKind.i64.wrap (y * u) = y * u := IntWalk.i64_in _ ⟨by omega, by omega⟩
        have m4 : IntKind.i64.wrap (1 + y * u) = 1 + y * u := IntWalk.i64_in _ ⟨by omega, by omega⟩
        obtain ⟨q, hq⟩ : ∃ q, y * u = q := ⟨_, rfl⟩
        rw [hq] at m1 m2 m3 m4
        obtain ⟨Q, rfl⟩ := Int.eq_ofNat_of_zero_le m2
        go_wp2_with fail
        refine (l01Long_any _ (1 + Q) (by omega) (by omega) _ 32 rfl _).mono ?_
        rintro e v22 ⟨sp, hsp, rfl, Bv22⟩
        have Dv22 := Lib.hid (Dv21.out.below Bv22 Dv21.out.lt)
        have Pv22 := Lib.hid (Pv21.out.trans (Out.of_below Bv22 _ _))
        have zv22 := Bv22.size
        clear Bv22
        clear hq
        have hadd := fun w => run_string_add_sum (P := Tryd.prog) w s sp (by omega)
        obtain ⟨s2, hs2⟩ : ∃ s2 : ByteArray, s ++ sp = s2 := ⟨_, rfl⟩
        have hzs2 : s2.size = s.size + sp.size := by rw [← hs2, text_sum]
        simp only [hs2] at hadd
        clear hs2
        go_wp2_with fail
        go_loopw [7, 5] (fun kv sv wq => ∃ (j : Nat) (t : ByteArray), j ≤ 5 ∧ kv = .int .i64 j ∧ sv = .string t ∧ t.size ≤ 8 * k + 3 + j ∧ Hid (Cursor wq g a len cap zs) ∧ Hid (Out g (g + 1) w1 wq)) (fun kv _ _ => 5 - (intOf kv).toNat)
        case atStart => exact ⟨0, s2, by omega, rfl, rfl, by omega, Dv22, Pv22⟩
        case round =>
          obtain ⟨j, t, hj, rfl, rfl, ht, HCj, HPj⟩ := hrel
          have jp0 : (0 : Int) ≤ (j : Int) := Int.natCast_nonneg _
          go_wp2_with fail
          refine (l01Below_any g a len cap zs _ _ HCj.out (by omega) (by omega)).mono ?_
          rintro e v23 ⟨v, ⟨p, p0, p1, rfl⟩, rfl, Cv23, Ov23⟩
          have Dv23 := Lib.hid Cv23
          have Pv23 := Lib.hid (HPj.out.trans Ov23)
          have zv23 := Ov23.size
          clear Cv23 Ov23
          by_cases hjp : (j : Int) ≤ p
          case pos =>
            go_wp2_with fail
            refine (l01Below_any g a len cap zs _ _ Dv23.out (by omega) (by omega)).mono ?_
            rintro e v24 ⟨v, ⟨c, c0, c1, rfl⟩, rfl, Cv24, Ov24⟩
            have Dv24 := Lib.hid Cv24
            have Pv24 := Lib.hid (Pv23.out.trans Ov24)
            have zv24 := Ov24.size
            clear Cv24 Ov24
            obtain ⟨b, hb⟩ := byte_of (x := 33 + c) (by omega) (by omega)
            have hc := text_one v24 (33 + c) b hb
            have wr1 : IntKind.i64.wrap (33 + c) = 33 + c := IntWalk.i64_in _ ⟨by omega, by omega⟩
            have wr2 : IntKind.u8.wrap (33 + c) = 33 + c := IntWalk.u8_in _ ⟨by omega, by omega⟩
            clear hb
            have hb1 : (⟨#[b]⟩ : ByteArray).size = 1 := rfl
            obtain ⟨bb, hbb⟩ : ∃ bb : ByteArray, (⟨#[b]⟩ : ByteArray) = bb := ⟨_, rfl⟩
            rw [hbb] at hc hb1
            clear hbb
            have hadd := fun w => run_string_add_sum (P := Tryd.prog) w t bb (by omega)
            obtain ⟨t2, ht2⟩ : ∃ t2 : ByteArray, t ++ bb = t2 := ⟨_, rfl⟩
            have hzt2 : t2.size = t.size + bb.size := by rw [← ht2, text_sum]
            simp only [ht2] at hadd
            clear ht2
            go_wp2_with fail
            go_roundw
            case rel => exact ⟨j + 1, t2, by omega, by go_num, rfl, by omega, Lib.hid (Dv24.out.alloc _), Lib.hid (Pv24.out.alloc _)⟩
            case measure => simp [intOf] <;> omega
          go_wp2_with fail
          go_roundw
          case rel => exact ⟨k + 1, t, by omega, by go_num, rfl, by omega, Dv23, Pv23⟩
          case measure => simp [intOf] <;> omega
      have hk0i : ¬ (0 : Int) < k := by omega
      go_wp2_with fail
      refine (l01Once_any g a len cap zs _ _ HC.out (by omega) (by omega)).mono ?_
      rintro e v25 ⟨v, ⟨c, rfl⟩, rfl, Cv25, Ov25⟩
      have Dv25 := Lib.hid Cv25
      have Pv25 := Lib.hid (HP.out.trans Ov25)
      have zv25 := Ov25.size
      clear Cv25 Ov25
      cases c
      case true =>
        go_wp2_with fail
        refine (l01Below_any g a len cap zs _ _ Dv25.out (by omega) (by omega)).mono ?_
        rintro e v26 ⟨v, ⟨y, y0, y1, rfl⟩, rfl, Cv26, Ov26⟩
        have Dv26 := Lib.hid Cv26
        have Pv26 := Lib.hid (Pv25.out.trans Ov26)
        have zv26 := Ov26.size
        clear Cv26 Ov26
        go_wp2_with fail
        refine (l01Below_any g a len cap zs _ _ Dv26.out (by omega) (by omega)).mono ?_
        rintro e v27 ⟨v, ⟨u, u0, u1, rfl⟩, rfl, Cv27, Ov27⟩
        have Dv27 := Lib.hid Cv27
        have Pv27 := Lib.hid (Pv26.out.trans Ov27)
        have zv27 := Ov27.size
        clear Cv27 Ov27
        have m1 : y * u ≤ 1 * u := Int.mul_le_mul_of_nonneg_right (by omega) u0
        have m2 : 0 ≤ y * u := Int.mul_nonneg y0 u0
        have m3 : IntKind.i64.wrap (y * u) = y * u := IntWalk.i64_in _ ⟨by omega, by omega⟩
        have m4 : IntKind.i64.wrap (1 + y * u) = 1 + y * u := IntWalk.i64_in _ ⟨by omega, by omega⟩
        obtain ⟨q, hq⟩ : ∃ q, y * u = q := ⟨_, rfl⟩
        rw [hq] at m1 m2 m3 m4
        obtain ⟨Q, rfl⟩ := Int.eq_ofNat_of_zero_le m2
        go_wp2_with fail
        refine (l01Long_any _ (1 + Q) (by omega) (by omega) _ 32 rfl _).mono ?_
        rintro e v28 ⟨sp, hsp, rfl, Bv28⟩
        have Dv28 := Lib.hid (Dv27.out.below Bv28 Dv27.out.lt)
        have Pv28 := Lib.hid (Pv27.out.trans (Out.of_below Bv28 _ _))
        have zv28 := Bv28.size
        clear Bv28
        clear hq
        have hadd := fun w => run_string_add_sum (P := Tryd.prog) w s sp (by omega)
        obtain ⟨s2, hs2⟩ : ∃ s2 : ByteArray, s ++ sp = s2 := ⟨_, rfl⟩
        have hzs2 : s2.size = s.size + sp.size := by rw [← hs2, text_sum]
        simp only [hs2] at hadd
        clear hs2
        go_wp2_with fail
        go_loopw [7, 5] (fun kv sv wq => ∃ (j : Nat) (t : ByteArray), j ≤ 5 ∧ kv = .int .i64 j ∧ sv = .string t ∧ t.size ≤ 8 * k + 3 + j ∧ Hid (Cursor wq g a len cap zs) ∧ Hid (Out g (g + 1) w1 wq)) (fun kv _ _ => 5 - (intOf kv).toNat)
        case atStart => exact ⟨0, s2, by omega, rfl, rfl, by omega, Dv28, Pv28⟩
        case round =>
          obtain ⟨j, t, hj, rfl, rfl, ht, HCj, HPj⟩ := hrel
          have jp0 : (0 : Int) ≤ (j : Int) := Int.natCast_nonneg _
          go_wp2_with fail
          refine (l01Below_any g a len cap zs _ _ HCj.out (by omega) (by omega)).mono ?_
          rintro e v29 ⟨v, ⟨p, p0, p1, rfl⟩, rfl, Cv29, Ov29⟩
          have Dv29 := Lib.hid Cv29
          have Pv29 := Lib.hid (HPj.out.trans Ov29)
          have zv29 := Ov29.size
          clear Cv29 Ov29
          by_cases hjp : (j : Int) ≤ p
          case pos =>
            go_wp2_with fail
            refine (l01Below_any g a len cap zs _ _ Dv29.out (by omega) (by omega)).mono ?_
            rintro e v30 ⟨v, ⟨c, c0, c1, rfl⟩, rfl, Cv30, Ov30⟩
            have Dv30 := Lib.hid Cv30
            have Pv30 := Lib.hid (Pv29.out.trans Ov30)
            have zv30 := Ov30.size
            clear Cv30 Ov30
            obtain ⟨b, hb⟩ := byte_of (x := 33 + c) (by omega) (by omega)
            have hc := text_one v30 (33 + c) b hb
            have wr1 : IntKind.i64.wrap (33 + c) = 33 + c := IntWalk.i64_in _ ⟨by omega, by omega⟩
            have wr2 : IntKind.u8.wrap (33 + c) = 33 + c := IntWalk.u8_in _ ⟨by omega, by omega⟩
            clear hb
            have hb1 : (⟨#[b]⟩ : ByteArray).size = 1 := rfl
            obtain ⟨bb, hbb⟩ : ∃ bb : ByteArray, (⟨#[b]⟩ : ByteArray) = bb := ⟨_, rfl⟩
            rw [hbb] at hc hb1
            clear hbb
            have hadd := fun w => run_string_add_sum (P := Tryd.prog) w t bb (by omega)
            obtain ⟨t2, ht2⟩ : ∃ t2 : ByteArray, t ++ bb = t2 := ⟨_, rfl⟩
            have hzt2 : t2.size = t.size + bb.size := by rw [← ht2, text_sum]
            simp only [ht2] at hadd
            clear ht2
            go_wp2_with fail
            go_roundw
            case rel => exact ⟨j + 1, t2, by omega, by go_num, rfl, by omega, Lib.hid (Dv30.out.alloc _), Lib.hid (Pv30.out.alloc _)⟩
            case measure => simp [intOf] <;> omega
          go_wp2_with fail
          go_roundw
          case rel => exact ⟨k + 1, t, by omega, by go_num, rfl, by omega, Dv29, Pv29⟩
          case measure => simp [intOf] <;> omega
      go_wp2_with fail
      go_loopw [7, 5] (fun kv sv wq => ∃ (j : Nat) (t : ByteArray), j ≤ 5 ∧ kv = .int .i64 j ∧ sv = .string t ∧ t.size ≤ 8 * k + 3 + j ∧ Hid (Cursor wq g a len cap zs) ∧ Hid (Out g (g + 1) w1 wq)) (fun kv _ _ => 5 - (intOf kv).toNat)
      case atStart => exact ⟨0, s, by omega, rfl, rfl, by omega, Dv25, Pv25⟩
      case round =>
        obtain ⟨j, t, hj, rfl, rfl, ht, HCj, HPj⟩ := hrel
        have jp0 : (0 : Int) ≤ (j : Int) := Int.natCast_nonneg _
        go_wp2_with fail
        refine (l01Below_any g a len cap zs _ _ HCj.out (by omega) (by omega)).mono ?_
        rintro e v31 ⟨v, ⟨p, p0, p1, rfl⟩, rfl, Cv31, Ov31⟩
        have Dv31 := Lib.hid Cv31
        have Pv31 := Lib.hid (HPj.out.trans Ov31)
        have zv31 := Ov31.size
        clear Cv31 Ov31
        by_cases hjp : (j : Int) ≤ p
        case pos =>
          go_wp2_with fail
          refine (l01Below_any g a len cap zs _ _ Dv31.out (by omega) (by omega)).mono ?_
          rintro e v32 ⟨v, ⟨c, c0, c1, rfl⟩, rfl, Cv32, Ov32⟩
          have Dv32 := Lib.hid Cv32
          have Pv32 := Lib.hid (Pv31.out.trans Ov32)
          have zv32 := Ov32.size
          clear Cv32 Ov32
          obtain ⟨b, hb⟩ := byte_of (x := 33 + c) (by omega) (by omega)
          have hc := text_one v32 (33 + c) b hb
          have wr1 : IntKind.i64.wrap (33 + c) = 33 + c := IntWalk.i64_in _ ⟨by omega, by omega⟩
          have wr2 : IntKind.u8.wrap (33 + c) = 33 + c := IntWalk.u8_in _ ⟨by omega, by omega⟩
          clear hb
          have hb1 : (⟨#[b]⟩ : ByteArray).size = 1 := rfl
          obtain ⟨bb, hbb⟩ : ∃ bb : ByteArray, (⟨#[b]⟩ : ByteArray) = bb := ⟨_, rfl⟩
          rw [hbb] at hc hb1
          clear hbb
          have hadd := fun w => run_string_add_sum (P := Tryd.prog) w t bb (by omega)
          obtain ⟨t2, ht2⟩ : ∃ t2 : ByteArray, t ++ bb = t2 := ⟨_, rfl⟩
          have hzt2 : t2.size = t.size + bb.size := by rw [← ht2, text_sum]
          simp only [ht2] at hadd
          clear ht2
          go_wp2_with fail
          go_roundw
          case rel => exact ⟨j + 1, t2, by omega, by go_num, rfl, by omega, Lib.hid (Dv32.out.alloc _), Lib.hid (Pv32.out.alloc _)⟩
          case measure => simp [intOf] <;> omega
        go_wp2_with fail
        go_roundw
        case rel => exact ⟨k + 1, t, by omega, by go_num, rfl, by omega, Dv31, Pv31⟩
        case measure => simp [intOf] <;> omega
    have kp1 : ¬ (k : Int) < N := by omega
    go_wp2_with fail
    refine (l01Below_any g a len cap zs _ _ HC.out (by omega) (by omega)).mono ?_
    rintro e v33 ⟨v, ⟨y, y0, y1, rfl⟩, rfl, Cv33, Ov33⟩
    have Dv33 := Lib.hid Cv33
    have Pv33 := Lib.hid (HP.out.trans Ov33)
    have zv33 := Ov33.size
    clear Cv33 Ov33
    have BB := Lib.hid (below_out B1.out Pv33.out (by have := HG.out; omega) B1.out.size)
    by_cases y0z : y = 0
    case pos =>
      subst y0z
      go_wp2_with fail
      refine (l01Pick_any g a len cap zs _ _ _ v33.heap.size (v33.heap.size + 1) odd6 _ (Dv33.out.alloc _) (Strs.lit v33 odd6 (by simp [odd6])) Dv33.out.lt rfl (by simp [odd6]) (by simp [odd6])).mono ?_
      rintro e w9 ⟨v, ⟨l9, h9, rfl⟩, rfl, C9, O9⟩
      have hl9 : l9.length ≤ 2 := by simp [odd6] at h9; rcases h9 with h | h | h | h | h | h <;> (rw [h]; simp)
      clear h9 C9
      obtain ⟨t9, ht9⟩ : ∃ t9 : ByteArray, (⟨l9.toArray⟩ : ByteArray) = t9 := ⟨_, rfl⟩
      rw [ht9]
      have hs9 : t9.size ≤ 2 := by rw [← ht9, ← size_list]; exact hl9
      clear ht9
      have B9 := Lib.hid (below_out (BB.out.alloc BB.out.size _) O9 (by have := HG.out; omega) (by have := BB.out.size; simp; omega))
      clear O9
      have hadd := fun w => run_string_add_sum (P := Tryd.prog) w s t9 (by omega)
      obtain ⟨r9, hr9⟩ : ∃ r9 : ByteArray, s ++ t9 = r9 := ⟨_, rfl⟩
      have hzr9 : r9.size = s.size + t9.size := by rw [← hr9, text_sum]
      simp only [hr9] at hadd
      clear hr9
      go_wp2_with fail
      go_ret
      exact ⟨r9, by omega, rfl, B9.out⟩
    have y0b : (y == 0) = false := by simpa using y0z
    by_cases y1z : y = 1
    case pos =>
      subst y1z
      have hs600 : (s.size : Int) < 600 := by omega
      have m5 : IntKind.i64.wrap (600 - (s.size : Int)) = 600 - (s.size : Int) := IntWalk.i64_in _ ⟨by omega, by omega⟩
      go_wp2_with fail
      refine (l01Below_any g a len cap zs _ _ Dv33.out (by omega) (by omega)).mono ?_
      rintro e v34 ⟨v, ⟨u, u0, u1, rfl⟩, rfl, Cv34, Ov34⟩
      have Dv34 := Lib.hid Cv34
      have Pv34 := Lib.hid (Pv33.out.trans Ov34)
      have zv34 := Ov34.size
      clear Cv34 Ov34
      have m6 : IntKind.i64.wrap (600 - (s.size : Int) + u) = 600 - (s.size : Int) + u := IntWalk.i64_in _ ⟨by omega, by omega⟩
      obtain ⟨Q, rfl⟩ := Int.eq_ofNat_of_zero_le u0
      go_wp2_with fail
      refine (l01Long_any _ (600 - s.size + Q) (by omega) (by omega) _ 32 rfl _).mono ?_
      rintro e v35 ⟨sp, hsp, rfl, Bv35⟩
      have Dv35 := Lib.hid (Dv34.out.below Bv35 Dv34.out.lt)
      have Pv35 := Lib.hid (Pv34.out.trans (Out.of_below Bv35 _ _))
      have zv35 := Bv35.size
      clear Bv35
      have hadd := fun w => run_string_add_sum (P := Tryd.prog) w s sp (by omega)
      obtain ⟨s2, hs2⟩ : ∃ s2 : ByteArray, s ++ sp = s2 := ⟨_, rfl⟩
      have hzs2 : s2.size = s.size + sp.size := by rw [← hs2, text_sum]
      simp only [hs2] at hadd
      clear hs2
      go_wp2_with fail
      go_ret
      exact ⟨s2, by omega, rfl, below_out B1.out Pv35.out (by have := HG.out; omega) B1.out.size⟩
    have y1b : (y == 1) = false := by simpa using y1z
    go_wp2_with fail
    go_ret
    exact ⟨s, by omega, rfl, BB.out⟩
end Go.Proofs.YtepjjlaipindnaaDoor
