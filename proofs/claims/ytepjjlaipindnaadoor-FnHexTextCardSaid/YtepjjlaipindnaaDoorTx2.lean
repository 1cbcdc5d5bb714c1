/- Contracts over texts: DecodeHex of both sides. -/
import Derived.Test.YtepjjlaipindnaaDoorTx1
import Derived.Test.YtepjjlaipindnaaDoorShelfT
namespace Go.Proofs.YtepjjlaipindnaaDoor
open Go.RowKit Go.Instr
set_option linter.unusedVariables false
set_option linter.unusedSimpArgs false
theorem indexDigit (x : Nat) (h : x < 256) : Lib.indexByte [48, 49, 50, 51, 52, 53, 54, 55, 56, 57, 97, 98, 99, 100, 101, 102] (x : Int).toNat.toUInt8 = Pl.val x := by
  have h256 : ∀ x : Fin 256, Lib.indexByte [48, 49, 50, 51, 52, 53, 54, 55, 56, 57, 97, 98, 99, 100, 101, 102] ((x.1 : Nat) : Int).toNat.toUInt8 = Pl.val x.1 := by decide +kernel
  exact h256 ⟨x, h⟩
theorem indexHex (x : Nat) (w : World) (h : x < 256) : Calls Tryd.prog 37 #[.string ⟨#[48, 49, 50, 51, 52, 53, 54, 55, 56, 57, 97, 98, 99, 100, 101, 102]⟩, .int .u8 x] w fun e w' => e = .returned (.int .i64 (Pl.val x)) ∧ w = w' := by
  refine (Tryd.strings_IndexByte _ _ _).mono ?_
  rintro e w' ⟨rfl, rfl⟩
  exact ⟨by rw [← indexDigit x h], rfl⟩
set_option maxRecDepth 100000 in
set_option maxHeartbeats 4000000 in
theorem implDecode (s : ByteArray) (w : World) (hs : s.size ≤ 9223372036854775807) : Calls Tryd.prog 24 #[.string s] w fun e w' => e = .returned (.tuple #[.string ⟨(Pl.decodeHex s.data.toList).1.toArray⟩, .bool (Pl.decodeHex s.data.toList).2]) ∧ Below w.heap.size w w' := by
  have hl := size_list s
  obtain ⟨l, hll⟩ : ∃ l, l = s.data.toList := ⟨_, rfl⟩
  rw [← hll] at hl ⊢
  obtain ⟨n, hn⟩ : ∃ n, s.size = n := ⟨_, rfl⟩
  rw [hn] at hs hl
  obtain ⟨i0, hi0, hz0, hz1, hz2⟩ := info_parts Tryd.infoByte
  have HLL := Lib.hid hll
  have HL := Lib.hid hl
  clear hll hl
  obtain ⟨h, hh⟩ : ∃ h, n / 2 = h := ⟨_, rfl⟩
  obtain ⟨q, hq⟩ : ∃ q, n % 2 = q := ⟨_, rfl⟩
  have t1 : (n : Int).tmod 2 = (q : Int) := by rw [Int.tmod_eq_emod_of_nonneg (by omega)]; omega
  have t2 : IntKind.i64.wrap (q : Int) = (q : Int) := IntWalk.i64_in _ ⟨by omega, by omega⟩
  have t3 : (n : Int) % 2 = (q : Int) := by omega
  have t4 : (n : Int) / 2 = (h : Int) := by omega
  have t5 : IntKind.i64.wrap (h : Int) = (h : Int) := IntWalk.i64_in _ ⟨by omega, by omega⟩
  have t6 : (n : Int).tdiv 2 = (h : Int) := by rw [Int.tdiv_eq_ediv_of_nonneg (by omega)]; exact t4
  by_cases hbig : 40000 < n
  · have hp : Pl.decodeHex l = ([], false) := by unfold Pl.decodeHex; rw [if_neg (by rw [HL.out]; omega)]
    rw [hp]
    have hb : (40000 : Int) < n := by omega
    by_cases hq0 : q = 0
    · subst hq0
      go_enter Tryd.func24, Tryd.ntmps24
      go_wp2_with fail
      go_ret2
      exact ⟨rfl, Below.refl _ _⟩
    · have hq1 : ¬ (q : Int) = 0 := by omega
      go_enter Tryd.func24, Tryd.ntmps24
      go_wp2_with fail
      go_ret2
      exact ⟨rfl, Below.refl _ _⟩
  have hb : ¬ (40000 : Int) < n := by omega
  by_cases hq0 : q = 0
  case neg =>
    have hp : Pl.decodeHex l = ([], false) := by unfold Pl.decodeHex; rw [if_neg (by rw [HL.out]; omega)]
    rw [hp]
    have hq1 : ¬ (q : Int) = 0 := by omega
    go_enter Tryd.func24, Tryd.ntmps24
    go_wp2_with fail
    go_ret2
    exact ⟨rfl, Below.refl _ _⟩
  subst hq0
  have hp : Pl.decodeHex l = if Pl.goodTo l h = true then (Pl.decTo l h, true) else ([], false) := by
    unfold Pl.decodeHex
    rw [HL.out, hh]
    by_cases hg : Pl.goodTo l h = true
    · rw [if_pos ⟨hq, by omega, hg⟩, if_pos hg]
    · rw [if_neg (fun c => hg c.2.2), if_neg hg]
  obtain ⟨rt, hrt⟩ : ∃ rt, Pl.decodeHex l = rt := ⟨_, rfl⟩
  rw [hrt] at hp ⊢
  have HR := Lib.hid hp
  clear hp hrt
  have hn2 : n = 2 * h := by omega
  have HH := Lib.hid hn2
  have t1' : (n : Int).tmod 2 = 0 := by simpa using t1
  have t3' : (n : Int) % 2 = 0 := by simpa using t3
  clear hn2 hh hq t1 t2 t3
  go_enter Tryd.func24, Tryd.ntmps24
  go_wp2_with (at_make; refine wpList_make_own _ rfl _ _ 22 rfl w.heap.size 5 i0 (.int .u8 0) 1 Tryd.underlying22 hi0 hz0 hz1 .i64 .i64 _ h rfl rfl (by omega) (by rw [hz2]; omega) (by unfold maxLen; omega) (Nat.le_refl _) ?_; intro w1 hown hgrow; have X1 := Lib.hid hown; have B1 : Hid (Below w.heap.size w w1) := Lib.hid ⟨hgrow.os, hgrow.tape, hgrow.output, hgrow.size, fun k hk => hgrow.block k hk (by simp)⟩; clear hown hgrow)
  go_loopw [5, 4] (fun i v wr => ∃ (k g cap : Nat), k ≤ h ∧ i = .int .i64 ((2 * k : Nat) : Int) ∧ v = .slice (some ⟨g, 0, none⟩) k cap ∧ Hid (Pl.goodTo l k = true) ∧ Hid (BRow wr w.heap.size v (Pl.decTo l k)) ∧ Hid (Below w.heap.size w wr)) (fun i _ _ => n + 1 - (intOf i).toNat)
  case atStart => exact ⟨0, w.heap.size, h, by omega, by simp, rfl, Lib.hid (Pl.goodTo_zero l), Lib.hid X1.out, Lib.hid B1.out⟩
  case round =>
    obtain ⟨k, g, cap, hk, rfl, rfl, HG, HO, HB⟩ := hrel
    obtain ⟨k2, hk2⟩ : ∃ k2, 2 * k = k2 := ⟨_, rfl⟩
    rw [hk2]
    have HK2 := Lib.hid hk2
    have kp0 : (0 : Int) ≤ (k2 : Int) := Int.natCast_nonneg _
    by_cases hlt : k < h
    · have kp2 : k2 + 1 < n := by have := HH.out; omega
      have kp1 : (k2 : Int) < n := by omega
      have kp3 : (k2 : Int) + 1 < n := by omega
      obtain ⟨b, e1, e2⟩ := byte_at (s := s) (k := k2) (by omega)
      rw [← HLL.out] at e1
      obtain ⟨c, f1, f2⟩ := byte_at (s := s) (k := k2 + 1) (by omega)
      rw [← HLL.out] at f1
      obtain ⟨x, hx⟩ : ∃ x, b.toNat = x := ⟨_, rfl⟩
      have x9 : x < 256 := by rw [← hx]; exact UInt8.toNat_lt _
      have nx : Pl.nat l k2 = x := by rw [Pl.nat_get e1, hx]
      have Nx := Lib.hid nx
      clear nx e1
      have bdx := Pl.val_bd x
      obtain ⟨xv, hvx⟩ : ∃ z, Pl.val x = z := ⟨_, rfl⟩
      rw [hvx] at bdx
      have Vx := Lib.hid hvx
      clear hvx
      obtain ⟨xa, xb⟩ := bdx
      obtain ⟨y, hy⟩ : ∃ y, c.toNat = y := ⟨_, rfl⟩
      have y9 : y < 256 := by rw [← hy]; exact UInt8.toNat_lt _
      have ny : Pl.nat l (k2 + 1) = y := by rw [Pl.nat_get f1, hy]
      have Ny := Lib.hid ny
      clear ny f1
      have bdy := Pl.val_bd y
      obtain ⟨yv, hvy⟩ : ∃ z, Pl.val y = z := ⟨_, rfl⟩
      rw [hvy] at bdy
      have Vy := Lib.hid hvy
      clear hvy
      obtain ⟨ya, yb⟩ := bdy
      have hgd : Pl.good l k = (decide (0 ≤ xv) && decide (0 ≤ yv)) := by unfold Pl.good; rw [hk2, Nx.out, Ny.out, Vx.out, Vy.out]
      have HGD := Lib.hid hgd
      clear hgd
      have w1' : IntKind.i64.wrap ((k2 : Int) + 1) = (k2 : Int) + 1 := IntWalk.i64_in _ ⟨by omega, by omega⟩
      have w2' : IntKind.i64.wrap ((k2 : Int) + 2) = (k2 : Int) + 2 := IntWalk.i64_in _ ⟨by omega, by omega⟩
      by_cases gx : 0 ≤ xv
      case neg =>
        have gxi : xv < 0 := by omega
        have hno : Pl.goodTo l h = false := Pl.goodTo_no hlt (by rw [HGD.out]; simp; omega)
        obtain rfl : rt = ([], false) := by rw [HR.out, hno]; rfl
        clear HR hno
        go_wp2_with (first | (go_at_call 37; ((with_reducible refine (indexHex x _ x9).mono ?_)); rw [Vx.out]; rintro e w' ⟨rfl, rfl⟩) | (go_at_call 37; ((with_reducible refine (indexHex y _ y9).mono ?_)); rw [Vy.out]; rintro e w' ⟨rfl, rfl⟩))
        go_ret2
        exact ⟨rfl, HB.out⟩
      by_cases gy : 0 ≤ yv
      case neg =>
        have gyi : yv < 0 := by omega
        have gxi : ¬ xv < 0 := by omega
        have hno : Pl.goodTo l h = false := Pl.goodTo_no hlt (by rw [HGD.out]; simp; omega)
        obtain rfl : rt = ([], false) := by rw [HR.out, hno]; rfl
        clear HR hno
        go_wp2_with (first | (go_at_call 37; ((with_reducible refine (indexHex x _ x9).mono ?_)); rw [Vx.out]; rintro e w' ⟨rfl, rfl⟩) | (go_at_call 37; ((with_reducible refine (indexHex y _ y9).mono ?_)); rw [Vy.out]; rintro e w' ⟨rfl, rfl⟩))
        go_ret2
        exact ⟨rfl, HB.out⟩
      have gxi : ¬ xv < 0 := by omega
      have gyi : ¬ yv < 0 := by omega
      have hgk : Pl.good l k = true := by rw [HGD.out]; simp; exact ⟨gx, gy⟩
      have hpn := Pl.pair_nat hgk
      rw [hk2, Nx.out, Ny.out, Vx.out, Vy.out] at hpn
      have m1 : IntKind.i64.wrap (16 * xv) = 16 * xv := IntWalk.i64_in _ ⟨by omega, by omega⟩
      have m2 : IntKind.i64.wrap (16 * xv + yv) = 16 * xv + yv := IntWalk.i64_in _ ⟨by omega, by omega⟩
      have m3 : IntKind.u8.wrap (16 * xv + yv) = 16 * xv + yv := IntWalk.u8_in _ ⟨by omega, by omega⟩
      have HPN := Lib.hid hpn
      have HGK := Lib.hid hgk
      clear hpn hgk
      have hlo := HB.out.size
      go_wp2_with (first | (go_at_call 37; ((with_reducible refine (indexHex x _ x9).mono ?_)); rw [Vx.out]; rintro e w' ⟨rfl, rfl⟩) | (go_at_call 37; ((with_reducible refine (indexHex y _ y9).mono ?_)); rw [Vy.out]; rintro e w' ⟨rfl, rfl⟩) | (at_builtin; refine wpList_append_lies _ rfl _ _ 22 rfl w.heap.size 5 i0 (.int .u8 0) 1 1 Tryd.underlying22 hi0 hz0 hz1 hz2 rfl (by decide) (.slice (some ⟨g, 0, none⟩) k cap) (Pl.decTo l k).length _ rfl (World.ownsRow.alloc (show wr.ownsRow w.heap.size 5 1 _ _ _ from HO.out) _) ⟨wr.heap.size, 0, none⟩ 1 1 (bcells [Pl.pair l k]) rfl rfl (by have hn := World.news_of_block (cs := #[.int .u8 (16 * xv + yv)]) (t := 5) (fr := (0, 0)) (heap_alloc_new wr _); rw [← HPN.out] at hn ⊢; exact hn) (bcells_one _) (by omega) (by rw [Pl.decTo_length]; unfold maxLen; omega) (by rw [Pl.decTo_length]; omega) (by simp; omega) (wr.heap.size + 1) (by simp) ?_; intro gg cap2 w2 hown2 hgrow2 hat2 hlt2; have X2 := Lib.hid hown2; have B2 := Lib.hid ((HB.out.alloc HB.out.size _).trans (grown_keep (World.ownsRow.alloc (show wr.ownsRow w.heap.size 5 1 _ _ _ from HO.out) _) hgrow2 (by simp; omega))); clear hown2 hgrow2 hat2 hlt2))
      go_roundw
      case rel => exact ⟨k + 1, gg, cap2, by omega, by rw [← HK2.out]; go_num, by rw [Pl.decTo_length], Lib.hid (Pl.goodTo_step HG.out HGK.out), Lib.hid (by unfold BRow; rw [Pl.decTo_step, bcells_append, List.length_append]; exact X2.out), B2⟩
      case measure => simp [intOf]; omega
    · obtain rfl : k = h := by omega
      have kp1 : ¬ (k2 : Int) < n := by have := HH.out; omega
      have hc := text_of_row HO.out (by rw [Pl.decTo_length])
      obtain rfl : rt = (Pl.decTo l k, true) := by rw [HR.out, if_pos HG.out]
      clear HR
      go_wp2_with fail
      go_ret2
      exact ⟨rfl, HB.out⟩
end Go.Proofs.YtepjjlaipindnaaDoor
