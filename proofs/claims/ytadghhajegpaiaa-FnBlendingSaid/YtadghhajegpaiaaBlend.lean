/- Contracts: Blend. -/
import Derived.Test.YtadghhajegpaiaaPix2
import Derived.Test.YtadghhajegpaiaaSl
namespace Go.Proofs.Ytadghhajegpaiaa.Pl
theorem over_ok {t b : Int} (h1 : isPix t = true) (h2 : isPix b = true) : isPix (over t b) = true := by
  have a1 := mix_le t b 1; have a2 := mix_le t b 2; have a3 := mix_le t b 3
  simp only [over, h1, h2, Bool.and_self, if_true]
  exact inB_mk (by omega)
theorem over_no {t b : Int} (h1 : isPix t = false) : over t b = -1 := by simp [over, h1]
theorem pix_nn {p : Int} (h : isPix p = true) : 0 ≤ p := (inB_t h).1
def stack (zs : List Int) (b : Int) : Int := zs.foldl (fun acc p => over p acc) b
def blend (zs : List Int) (b : Int) : Int := if zs.all isPix && isPix b then stack zs b else -1
theorem stack_snoc {zs : List Int} {k : Nat} {z : Int} (b : Int) (h : zs[k]? = some z) : stack (zs.take (k + 1)) b = over z (stack (zs.take k) b) := by
  rw [List.take_add_one, h]; simp [stack]
theorem all_get {zs : List Int} {k : Nat} {z : Int} (h : zs[k]? = some z) (ha : zs.all isPix = true) : isPix z = true := List.all_eq_true.1 ha z (List.mem_of_getElem? h)
theorem all_snoc {zs : List Int} {k : Nat} {z : Int} (h : zs[k]? = some z) (h1 : (zs.take k).all isPix = true) (h2 : isPix z = true) : (zs.take (k + 1)).all isPix = true := by
  rw [List.take_add_one, h, List.all_append, h1]; simp [h2]
theorem all_bad {zs : List Int} {k : Nat} {z : Int} (h : zs[k]? = some z) (h2 : isPix z = false) : zs.all isPix = false := by
  rw [List.all_eq_false]
  exact ⟨z, List.mem_of_getElem? h, by simp [h2]⟩
end Go.Proofs.Ytadghhajegpaiaa.Pl
namespace Go.Proofs.Ytadghhajegpaiaa
set_option linter.unusedVariables false
open Go.RowKit
set_option maxHeartbeats 1000000 in
theorem specBlend (A : Option Addr) (n c lo hi : Nat) (zs : List Int) (b : Int) (w : World) (HI : Ints w lo hi (.slice A n c) zs) :
    Calls Try.prog 38 #[.slice A n c, .int .i64 b] w fun e w' => e = .returned (.int .i64 (Pl.blend zs b)) ∧ w = w' := by
  have bn := HI.bd
  have L := Lib.hid HI.len_eq
  have G := Lib.hid HI
  clear HI
  cases hp : Pl.isPix b
  case false =>
    go_enter Try.func38, Try.ntmps38
    go_wp2_with (first | (go_at_call 50; ((with_reducible refine (l04Pixel_any _ _).mono ?_)); rintro e w' ⟨rfl, rfl⟩) | (go_at_call 20; ((with_reducible refine (specOver _ _ _).mono ?_)); rintro e w' ⟨rfl, rfl⟩))
    go_ret
    exact ⟨ret_int (by simp [Pl.blend, hp]), rfl⟩
  go_enter Try.func38, Try.ntmps38
  go_wp2_with (first | (go_at_call 50; ((with_reducible refine (l04Pixel_any _ _).mono ?_)); rintro e w' ⟨rfl, rfl⟩) | (go_at_call 20; ((with_reducible refine (specOver _ _ _).mono ?_)); rintro e w' ⟨rfl, rfl⟩))
  go_loop [5, 6] (fun v i => ∃ k : Nat, k ≤ n ∧ i = .int .i64 k ∧ v = .int .i64 (Pl.stack (zs.take k) b) ∧ Hid ((zs.take k).all Pl.isPix = true) ∧ Hid (Pl.isPix (Pl.stack (zs.take k) b) = true)) (fun _ i => n - (intOf i).toNat)
  case atStart => exact ⟨0, Nat.zero_le _, rfl, rfl, by show _ = _; simp, hp⟩
  case round =>
    obtain ⟨k, hk, rfl, rfl, HA, HP⟩ := hrel
    by_cases hlt : k < n
    · obtain ⟨g, z, rfl, _, hg, e1, cc, _⟩ := G.out.at_ hlt
      have E1 := Lib.hid e1
      clear e1
      cases hz : Pl.isPix z
      · have HO := Lib.hid (Pl.over_no (b := Pl.stack (zs.take k) b) hz)
        go_wp2_with (go_at_call 20; ((with_reducible refine (specOver _ _ _).mono ?_)); rintro e w' ⟨rfl, rfl⟩; rw [HO.out])
        go_ret
        exact ⟨ret_int (by simp [Pl.blend, Pl.all_bad E1.out hz]), rfl⟩
      · have HO := Lib.hid (Pl.over_ok hz HP.out)
        have hnn := Pl.pix_nn HO.out
        go_wp2_with (go_at_call 20; ((with_reducible refine (specOver _ _ _).mono ?_)); rintro e w' ⟨rfl, rfl⟩)
        go_round
        case rel => exact ⟨k + 1, by omega, by go_num, by rw [Pl.stack_snoc b E1.out], Pl.all_snoc E1.out HA.out hz, by show _ = _; rw [Pl.stack_snoc b E1.out]; exact HO.out⟩
        case measure => simp [intOf]; omega
    · go_wp2_with (go_at_call 20; ((with_reducible refine (specOver _ _ _).mono ?_)); rintro e w' ⟨rfl, rfl⟩)
      go_ret
      have e : zs.take k = zs := List.take_of_length_le (by rw [L.out]; omega)
      exact ⟨ret_int (by have h := HA.out; rw [e] at h ⊢; simp [Pl.blend, h, hp]), rfl⟩
set_option maxHeartbeats 1000000 in
theorem implBlend (A : Option Addr) (n c lo hi : Nat) (zs : List Int) (b : Int) (w : World) (HI : Ints w lo hi (.slice A n c) zs) :
    Calls Try.prog 37 #[.slice A n c, .int .i64 b] w fun e w' => e = .returned (.int .i64 (Pl.blend zs b)) ∧ w = w' := by
  have bn := HI.bd
  have L := Lib.hid HI.len_eq
  have G := Lib.hid HI
  clear HI
  go_enter Try.func37, Try.ntmps37
  go_wp2_with (go_at_call 54; ((with_reducible refine (isPixel_any _ _).mono ?_)); rintro e w' ⟨rfl, rfl⟩)
  go_loop [11] (fun i => ∃ k : Nat, k ≤ n ∧ i = .int .i64 k ∧ Hid ((zs.take k).all Pl.isPix = true)) (fun i => n - (intOf i).toNat)
  case atStart => exact ⟨0, Nat.zero_le _, rfl, by show _ = _; simp⟩
  case round =>
    obtain ⟨k, hk, rfl, HA⟩ := hrel
    by_cases hlt : k < n
    · obtain ⟨g, z, rfl, _, hg, e1, cc, _⟩ := G.out.at_ hlt
      have E1 := Lib.hid e1
      clear e1
      cases hz : Pl.isPix z
      · go_wp2_with (go_at_call 54; ((with_reducible refine (isPixel_any _ _).mono ?_)); rintro e w' ⟨rfl, rfl⟩)
        go_ret
        exact ⟨ret_int (by simp [Pl.blend, Pl.all_bad E1.out hz]), rfl⟩
      · go_wp2_with (go_at_call 54; ((with_reducible refine (isPixel_any _ _).mono ?_)); rintro e w' ⟨rfl, rfl⟩)
        go_round
        case rel => exact ⟨k + 1, by omega, by go_num, Pl.all_snoc E1.out HA.out hz⟩
        case measure => simp [intOf]; omega
    · have e : zs.take k = zs := List.take_of_length_le (by rw [L.out]; omega)
      have HB := Lib.hid (show zs.all Pl.isPix = true by have := HA.out; rwa [e] at this)
      clear HA e
      cases hp : Pl.isPix b
      · go_wp2_with (go_at_call 54; ((with_reducible refine (isPixel_any _ _).mono ?_)); rintro e w' ⟨rfl, rfl⟩)
        go_ret
        exact ⟨ret_int (by simp [Pl.blend, hp]), rfl⟩
      · go_wp2_with (go_at_call 54; ((with_reducible refine (isPixel_any _ _).mono ?_)); rintro e w' ⟨rfl, rfl⟩)
        go_loop [1, 24] (fun v i => ∃ k : Nat, k ≤ n ∧ i = .int .i64 k ∧ v = .int .i64 (Pl.stack (zs.take k) b)) (fun _ i => n - (intOf i).toNat)
        case atStart => exact ⟨0, Nat.zero_le _, rfl, rfl⟩
        case round =>
          obtain ⟨k2, hk2, rfl, rfl⟩ := hrel
          by_cases hlt2 : k2 < n
          · obtain ⟨g, z, rfl, _, hg, e1, cc, _⟩ := G.out.at_ hlt2
            have E1 := Lib.hid e1
            clear e1
            go_wp2_with (go_at_call 21; ((with_reducible refine (implOver _ _ _).mono ?_)); rintro e w' ⟨rfl, rfl⟩)
            go_round
            case rel => exact ⟨k2 + 1, by omega, by go_num, by rw [Pl.stack_snoc b E1.out]⟩
            case measure => simp [intOf]; omega
          · go_wp2_with (go_at_call 21; ((with_reducible refine (implOver _ _ _).mono ?_)); rintro e w' ⟨rfl, rfl⟩)
            go_ret
            have e : zs.take k2 = zs := List.take_of_length_le (by rw [L.out]; omega)
            exact ⟨ret_int (by rw [e]; simp [Pl.blend, HB.out, hp]), rfl⟩
set_option maxHeartbeats 1000000 in
theorem walkFnExactBlend (A : Option Addr) (n c : Nat) (z : List Int) (b : Int) (w : World) (hr : IsRow .i64 w A n c z) (wb : (Lit.int .i64 b).wf = true) :
    Calls Try.prog 11 #[.slice A n c, .int .i64 b] w fun e w' => e = .returned (.bool true) ∧ Below w.heap.size w w' := by
  clear wb
  obtain ⟨ha, hl, hm, _⟩ := Arg.of_row hr
  generalize z.take n = zs at *
  have AR := Lib.hid ha
  have L := Lib.hid hl
  clear ha hl hr
  by_cases hbig : n ≤ 1048576
  case neg =>
    go_enter Try.func11, Try.ntmps11
    go_wp2_with fail
    go_ret
    exact ⟨rfl, by go_grown⟩
  go_enter Try.func11, Try.ntmps11
  go_wp2_with fail
  refine (toIntS_any _ _ _ zs _ AR.out L.out hbig).mono ?_
  rintro e w1 ⟨A1, c1, rfl, O1, hb1⟩
  have H1 := Lib.hid O1
  clear O1
  go_wp2_with fail
  refine (specBlend _ _ _ _ _ zs _ _ H1.out).mono ?_
  rintro e w' ⟨rfl, rfl⟩
  go_wp2_with fail
  refine (toIntS_any _ _ _ zs _ (AR.out.below hb1) L.out hbig).mono ?_
  rintro e w2 ⟨A2, c2, rfl, O2, hb2⟩
  have H2 := Lib.hid O2
  have B2 : Below w.heap.size w w2 := later hb1 hb2
  clear O2
  go_wp2_with fail
  refine (implBlend _ _ _ _ _ zs _ _ H2.out).mono ?_
  rintro e w' ⟨rfl, rfl⟩
  go_wp2_with fail
  refine (toIntS_any _ _ _ zs _ (AR.out.below B2) L.out hbig).mono ?_
  rintro e w3 ⟨A3, c3, rfl, O3, hb3⟩
  have H3 := Lib.hid O3
  have B3 : Below w.heap.size w w3 := later B2 hb3
  clear O3
  go_wp2_with fail
  refine (eqIntS_any _ _ _ _ _ _ _ _ _ _ zs zs _ (H2.out.below hb3 H2.out.hi_le) H3.out).mono ?_
  rintro e w4 ⟨rfl, hb4⟩
  have B4 : Below w.heap.size w w4 := later B3 hb4
  go_wp2_with fail
  go_ret
  exact ⟨rfl, B4⟩
end Go.Proofs.Ytadghhajegpaiaa
