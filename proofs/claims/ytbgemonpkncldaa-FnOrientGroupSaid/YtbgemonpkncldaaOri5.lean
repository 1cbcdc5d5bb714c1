/- Contracts: Oriented, both sides. -/
import Derived.Test.YtbgemonpkncldaaOri0
import Derived.Test.YtbgemonpkncldaaIm3
import Derived.Deep.QuietTactic
import Derived.BigQuiet
namespace Go.Proofs.Ytbgemonpkncldaa
open Go.RowKit
set_option linter.unusedVariables false
theorem quietL {P : Program} {f : FuncId} {args : Array Value} {w : World} {n : Nat} {v : Value} (h : Calls P f args (w.drewN n) fun e w' => e = .returned v ∧ w.drewN n = w') : Calls P f args (w.drewN n) fun e w'' => e = .returned v ∧ ∃ m, w'' = w.drewN m :=
  h.mono fun _ _ ⟨he, hm⟩ => ⟨he, n, hm.symm⟩
set_option maxHeartbeats 4000000 in
theorem implOriented (W H : Int) (A : Option Addr) (n c lo hi : Nat) (zs : List Int) (o : Int) (w : World) (HI : Ints w lo hi (.slice A n c) zs) :
    Calls Try.prog 40 #[.agg #[.int .i64 W, .int .i64 H, .slice A n c], .int .i64 o] w (NewImg (Pl.oriented ⟨W, H, zs⟩ o) w) := by
  have bn := HI.bd
  have L := Lib.hid HI.len_eq
  have G := Lib.hid HI
  clear HI
  obtain ⟨i0, hi0, hz0, hz1, hz2⟩ := info_parts Try.infoInt
  cases hok : Pl.imageOk ⟨W, H, zs⟩
  case false =>
    have HV := Lib.hid (show Pl.Img.zero = Pl.oriented ⟨W, H, zs⟩ o by simp [Pl.oriented, hok])
    go_enter Try.func40, Try.ntmps40
    go_wp2_with fail
    refine (implImageOk _ _ _ _ _ lo hi zs _ (G.out.step (by go_grown))).mono ?_
    rw [hok]
    rintro e w1 ⟨rfl, hb1⟩
    have ⟨k1, f1, y1⟩ := keep3 hb1 (w.heap.size + 1) (by simp)
    have B1 : Below w.heap.size w w1 := later (by go_grown) hb1
    go_wp2_with fail
    refine bodyPost_ret (v := .agg #[.int .i64 0, .int .i64 0, .slice none 0 0]) (by simp [results, Try.results40, go_sem, k1]) rfl ?_
    rw [← HV.out]
    exact ⟨none, 0, rfl, Own.nil _ _ _ _ _ (Nat.le_refl _), by go_grown⟩
  cases ho : Pl.inB o 0 7
  case false =>
    have HV := Lib.hid (show Pl.Img.zero = Pl.oriented ⟨W, H, zs⟩ o by simp [Pl.oriented, ho])
    go_enter Try.func40, Try.ntmps40
    go_wp2_with fail
    refine (implImageOk _ _ _ _ _ lo hi zs _ (G.out.step (by go_grown))).mono ?_
    rw [hok]
    rintro e w1 ⟨rfl, hb1⟩
    have ⟨k1, f1, y1⟩ := keep3 hb1 (w.heap.size + 1) (by simp)
    have B1 : Below w.heap.size w w1 := later (by go_grown) hb1
    go_wp2_with (go_at_call 77; ((with_reducible refine (isOrient_any _ _).mono ?_)); rintro e w' ⟨rfl, rfl⟩)
    refine bodyPost_ret (v := .agg #[.int .i64 0, .int .i64 0, .slice none 0 0]) (by simp [results, Try.results40, go_sem, k1]) rfl ?_
    rw [← HV.out]
    exact ⟨none, 0, rfl, Own.nil _ _ _ _ _ (Nat.le_refl _), by go_grown⟩
  obtain ⟨⟨W1, W2⟩, ⟨H1, H2⟩, e3, _⟩ := Pl.imageOk_t hok
  simp only at W1 W2 H1 H2 e3
  rw [L.out] at e3
  have ⟨o0, o7⟩ := Pl.inB_t ho
  have HV := Lib.hid (show (⟨Pl.orientW W H o, Pl.orientH W H o, Pl.orTo ⟨W, H, zs⟩ o zs.length (List.replicate (Pl.orN ⟨W, H, zs⟩ o) 0)⟩ : Pl.Img) = Pl.oriented ⟨W, H, zs⟩ o by simp [Pl.oriented, hok, ho])
  obtain ⟨X, rfl⟩ := Int.eq_ofNat_of_zero_le (show 0 ≤ W by omega)
  obtain ⟨Y, rfl⟩ := Int.eq_ofNat_of_zero_le (show 0 ≤ H by omega)
  have eN : n = X * Y := by rw [← Int.natCast_mul] at e3; omega
  have EN := Lib.hid eN
  obtain ⟨⟨m1, m2⟩, ⟨m3, m4⟩, m5⟩ := Pl.orient_bd (w := X) (h := Y) (o := o) ⟨W1, W2⟩ ⟨H1, H2⟩ ⟨o0, o7⟩
  have ⟨m6, m7⟩ := Pl.mul_bd (a := Pl.orientW X Y o) (b := Pl.orientH X Y o) (A := 16) (B := 16) (by omega) (by omega) (by omega) (by omega)
  have HN : Hid (Pl.orientW X Y o * Pl.orientH X Y o = ((Pl.orN ⟨X, Y, zs⟩ o : Nat) : Int)) := by show _ = _; simp only [Pl.orN]; omega
  have hn2 : Pl.orN ⟨X, Y, zs⟩ o ≤ 256 := by have := HN.out; omega
  clear e3 eN m5
  go_enter Try.func40, Try.ntmps40
  go_wp2_with fail
  refine (implImageOk _ _ _ _ _ lo hi zs _ (G.out.step (by go_grown))).mono ?_
  rw [hok]
  rintro e w1 ⟨rfl, hb1⟩
  have XA := Lib.hid (Box.of3 hb1 w.heap.size (by simp; omega) (v0 := .int .i64 X) (v1 := .int .i64 Y) (v2 := .slice A n c) (by simp [go_sem]) (by simp [go_sem]) (by simp [go_sem]))
  have ⟨k1, f1, z1⟩ := keep3 hb1 (w.heap.size + 1) (by simp)
  have XR := Lib.hid (Box.of3 hb1 (w.heap.size + 1) (by simp) (v0 := .int .i64 0) (v1 := .int .i64 0) (v2 := .slice none 0 0) (by simp [go_sem]) (by simp [go_sem]) (by simp [go_sem]))
  have FR := Lib.hid (show ∀ o, w1.frozen? ⟨w.heap.size + 1, o, none⟩ = false from fun o => by rw [f1]; simp [go_sem])
  have B1 : Below w.heap.size w w1 := later (by go_grown) hb1
  have s1 := B1.size
  have G1 := Lib.hid (G.out.step B1)
  have ⟨qa0, qa1, qa2, qa3⟩ := XA.out.open3
  clear k1 f1 hb1
  go_wp2_with (first | (first | (go_at_call 77; ((with_reducible refine (isOrient_any _ _).mono ?_)); rintro e w' ⟨rfl, rfl⟩) | (go_at_call 45; ((with_reducible refine (implOrientSize _ _ _ _).mono ?_)); rintro e w' ⟨rfl, rfl⟩)) | (at_make; refine wpList_make_full _ rfl _ _ 22 rfl w1.heap.size 3 i0 (.int .i64 0) 1 Try.underlying22 hi0 hz0 hz1 _ _ _ _ (Pl.orN ⟨X, Y, zs⟩ o) rfl rfl HN.out HN.out (by rw [hz2]; omega) (by unfold maxLen; omega) (Nat.le_refl _) ?_))
  intro w2 hown hgrow
  have hb2 : Below w1.heap.size w1 w2 := (Below.refl _ _).grown hgrow (Nat.le_refl _) (by simp)
  have O2 := Own.of_row hown
  rw [toList_madeCells_one] at O2
  have O3 : Hid (Ints w2 w1.heap.size w2.heap.size (.slice (some ⟨w1.heap.size, 0, none⟩) (Pl.orN ⟨X, Y, zs⟩ o) (Pl.orN ⟨X, Y, zs⟩ o)) (List.replicate (Pl.orN ⟨X, Y, zs⟩ o) 0)) := by
    show Own _ _ _ _ _ _ _ _
    simpa using O2
  have lt2 : w1.heap.size < w2.heap.size := (hown.lt _ rfl).2
  have XA2 := Lib.hid (XA.out.step hb2)
  have XR2 := Lib.hid (XR.out.step hb2)
  have G2 := Lib.hid (G1.out.step hb2)
  have FR2 := Lib.hid (show ∀ o, w2.frozen? ⟨w.heap.size + 1, o, none⟩ = false from fun o => (hb2.frozen (p := ⟨w.heap.size + 1, o, none⟩) XR.out.1).trans (FR.out o))
  have B2 : Below w.heap.size w w2 := later B1 hb2
  have s2 := B2.size
  clear hown hgrow O2 qa0 qa1 qa2 qa3 XA XR FR G1
  have ⟨qa0, qa1, qa2, qa3⟩ := XA2.out.open3
  go_wp2_with fail
  go_loopw [40] (fun i wr => ∃ k : Nat, k ≤ n ∧ i = .int .i64 k ∧ Hid (Ints wr w1.heap.size w2.heap.size (.slice (some ⟨w1.heap.size, 0, none⟩) (Pl.orN ⟨X, Y, zs⟩ o) (Pl.orN ⟨X, Y, zs⟩ o)) (Pl.orTo ⟨X, Y, zs⟩ o k (List.replicate (Pl.orN ⟨X, Y, zs⟩ o) 0))) ∧ Out w1.heap.size w2.heap.size w2 wr ∧ Hid (Box wr w2.heap.size [.int .i64 (Pl.orientW X Y o), .int .i64 (Pl.orientH X Y o), (.slice (some ⟨w1.heap.size, 0, none⟩) (Pl.orN ⟨X, Y, zs⟩ o) (Pl.orN ⟨X, Y, zs⟩ o))])) (fun i _ => n - (intOf i).toNat)
  case atStart => exact ⟨0, by omega, rfl, Own.alloc O3.out _, (Out.refl _ _ _).alloc _, Box.of3 (Below.refl _ _) w2.heap.size (by simp) (by simp [go_sem]) (by simp [go_sem]) (by simp [go_sem])⟩
  case round =>
    clear qa0 qa1 qa2 qa3 O3
    obtain ⟨k, hk, rfl, GR, ho2, XB⟩ := hrel
    have ⟨qb0, qb1, qb2, qb3⟩ := XB.out.open3
    have s3 := ho2.size
    by_cases hlt : k < n
    · have ⟨qa0, qa1, qa2, qa3⟩ := (XA2.out.out ho2 (.inl (by omega))).open3
      obtain ⟨g, z, rfl, _, hg, e1, cc, _⟩ := (G2.out.out ho2 (.inl (by have := G.out.hi_le; omega))).at_ hlt
      have hgl : g < w1.heap.size := by have := G.out.hi_le; omega
      obtain ⟨hin, j1, j2, ⟨j3, j4⟩, ⟨j5, j6⟩⟩ := Pl.oriIx_in (zs := zs) (W := X) (H := Y) (o := o) (k := k) ⟨by omega, by omega⟩ ⟨by omega, by omega⟩ ⟨o0, o7⟩ (by rw [← EN.out]; exact hlt)
      have HZ := Lib.hid (show Pl.ix zs k = z from Pl.ix_get e1)
      rw [HN.out] at j2
      obtain ⟨t, ht⟩ := Int.eq_ofNat_of_zero_le j1
      obtain ⟨g', zo, eg, lg, hg', e2, cc2, cf2⟩ := GR.out.at_ (k := t) (by omega)
      injection eg with eg
      injection eg with eg
      subst eg
      have HT := Lib.hid ht
      have hixe : Pl.oriY X Y o ((k : Int) % X) ((k : Int) / X) * Pl.orientW X Y o + Pl.oriX X Y o ((k : Int) % X) ((k : Int) / X) = Pl.oriIx ⟨X, Y, zs⟩ o k := rfl
      have HX := Lib.hid hixe
      have tn : (Pl.oriY X Y o ((k : Int) % X) ((k : Int) / X) * Pl.orientW X Y o + Pl.oriX X Y o ((k : Int) % X) ((k : Int) / X)).toNat = t := by rw [hixe, ht]; simp
      have cc2' : wr.cell? ⟨w1.heap.size, (Pl.oriY X Y o ((k : Int) % X) ((k : Int) / X) * Pl.orientW X Y o + Pl.oriX X Y o ((k : Int) % X) ((k : Int) / X)).toNat, none⟩ = some (.int .i64 zo) := by rw [tn]; exact cc2
      have cf2' : wr.frozen? ⟨w1.heap.size, (Pl.oriY X Y o ((k : Int) % X) ((k : Int) / X) * Pl.orientW X Y o + Pl.oriX X Y o ((k : Int) % X) ((k : Int) / X)).toNat, none⟩ = false := by rw [tn]; exact cf2
      have j7 : 0 ≤ Pl.oriY X Y o ((k : Int) % X) ((k : Int) / X) * Pl.orientW X Y o + Pl.oriX X Y o ((k : Int) % X) ((k : Int) / X) := by rw [hixe]; exact j1
      have j8 : Pl.oriY X Y o ((k : Int) % X) ((k : Int) / X) * Pl.orientW X Y o + Pl.oriX X Y o ((k : Int) % X) ((k : Int) / X) < ((Pl.orN ⟨X, Y, zs⟩ o : Nat) : Int) := by rw [hixe]; exact j2
      have ⟨j9, j10⟩ := Pl.mul_bd (a := Pl.oriY X Y o ((k : Int) % X) ((k : Int) / X)) (b := Pl.orientW X Y o) (A := 15) (B := 16) (by omega) (by omega) (by omega) (by omega)
      have TN := Lib.hid tn
      clear e1 e2 ht hixe tn cc2 cf2 hin j1 j2
      go_wp2_with fail
      have nX0 : ¬ (X : Int) = 0 := by omega
      have bX0 : ((X : Int) == 0) = false := by simp; omega
      have r1 : (k : Int).tmod X = (k : Int) % X := Int.tmod_eq_emod_of_nonneg (by omega)
      have r2 : (k : Int).tdiv X = (k : Int) / X := Int.tdiv_eq_ediv_of_nonneg (by omega)
      have r3 : IntKind.i64.wrap ((k : Int) % X) = (k : Int) % X := IntWalk.i64_in _ (by have := Int.emod_nonneg (k : Int) nX0; have := Int.emod_lt_of_pos (k : Int) (show (0 : Int) < X by omega); omega)
      have r4 : IntKind.i64.wrap ((k : Int) / X) = (k : Int) / X := IntWalk.i64_in _ (by have := Int.ediv_nonneg (show (0 : Int) ≤ k by omega) (show (0 : Int) ≤ X by omega); have := Int.ediv_le_self (X : Int) (show (0 : Int) ≤ k by omega); omega)
      go_quiet ((go_at_call 46; exact quietL (implOrientPoint _ _ _ _ _ _)))
      clear nX0 bX0 r1 r2 r3 r4
      go_wp2_with fail
      go_roundw
      case rel =>
        refine ⟨k + 1, by omega, by go_num, ?_, ?_, ?_⟩
        · show Ints _ _ _ _ ((Pl.orTo ⟨X, Y, zs⟩ o k (List.replicate (Pl.orN ⟨X, Y, zs⟩ o) 0)).set (Pl.oriIx ⟨X, Y, zs⟩ o k).toNat (Pl.ix zs k))
          rw [HT.out, HZ.out, TN.out, show ((t : Int)).toNat = t from rfl]
          exact GR.out.stored t z
        · exact (ho2.drewN _).setCell (by simp) (by simpa using lt2) _
        · exact XB.out.out (((Out.refl w1.heap.size w2.heap.size wr).drewN _).setCell (by simp) (by simpa using lt2) _) (.inr (Nat.le_refl _))
      case measure => simp [intOf]; omega
    · obtain rfl : k = n := by omega

      have B3 : Below w.heap.size w wr := below_out B2 ho2 (by omega) s2
      have ⟨qr0, qr1, qr2, qr3⟩ := (XR2.out.out ho2 (.inl z1)).open3
      have fr0 : wr.frozen? ⟨w.heap.size + 1, 0, none⟩ = false := ((ho2.keep (w.heap.size + 1) (by omega) (.inl z1)).2 0).trans (FR2.out 0)
      have fr1 : wr.frozen? ⟨w.heap.size + 1, 1, none⟩ = false := ((ho2.keep (w.heap.size + 1) (by omega) (.inl z1)).2 1).trans (FR2.out 1)
      have fr2 : wr.frozen? ⟨w.heap.size + 1, 2, none⟩ = false := ((ho2.keep (w.heap.size + 1) (by omega) (.inl z1)).2 2).trans (FR2.out 2)
      go_wp2_with fail
      refine bodyPost_ret (v := .agg #[.int .i64 (Pl.orientW X Y o), .int .i64 (Pl.orientH X Y o), .slice (some ⟨w1.heap.size, 0, none⟩) (Pl.orN ⟨X, Y, zs⟩ o) (Pl.orN ⟨X, Y, zs⟩ o)]) (by simp [results, Try.results40, go_sem, qr1, qr2, qr3]) rfl ?_
      rw [← HV.out]
      have hlen : (Pl.orTo ⟨X, Y, zs⟩ o zs.length (List.replicate (Pl.orN ⟨X, Y, zs⟩ o) 0)).length = Pl.orN ⟨X, Y, zs⟩ o := by rw [Pl.orTo_length, List.length_replicate]
      refine ⟨some ⟨w1.heap.size, 0, none⟩, Pl.orN ⟨X, Y, zs⟩ o, by simp only [hlen], ?_, by go_grown⟩
      simp only [hlen]
      have h := Own.far (Own.far (Own.far GR.out (p := ⟨w.heap.size + 1, 0, none⟩) (.inl z1) (.int .i64 (Pl.orientW X Y o))) (p := ⟨w.heap.size + 1, 1, none⟩) (.inl z1) (.int .i64 (Pl.orientH X Y o))) (p := ⟨w.heap.size + 1, 2, none⟩) (.inl z1) (.slice (some ⟨w1.heap.size, 0, none⟩) (Pl.orN ⟨X, Y, zs⟩ o) (Pl.orN ⟨X, Y, zs⟩ o))
      rw [← L.out] at h
      exact Own.mono h (by omega) (by simp [World.setCell]; omega) (by simp [World.setCell])
set_option maxHeartbeats 4000000 in
theorem specOriented (W H : Int) (A : Option Addr) (n c lo hi : Nat) (zs : List Int) (o : Int) (w : World) (HI : Ints w lo hi (.slice A n c) zs) :
    Calls Try.prog 39 #[.agg #[.int .i64 W, .int .i64 H, .slice A n c], .int .i64 o] w (NewImg (Pl.oriented ⟨W, H, zs⟩ o) w) := by
  have bn := HI.bd
  have L := Lib.hid HI.len_eq
  have G := Lib.hid HI
  clear HI
  obtain ⟨i0, hi0, hz0, hz1, hz2⟩ := info_parts Try.infoInt
  cases hok : Pl.imageOk ⟨W, H, zs⟩
  case false =>
    have HV := Lib.hid (show Pl.Img.zero = Pl.oriented ⟨W, H, zs⟩ o by simp [Pl.oriented, hok])
    go_enter Try.func39, Try.ntmps39
    go_wp2_with fail
    refine (specImageOk _ _ _ _ _ lo hi zs _ (G.out.step (by go_grown))).mono ?_
    rw [hok]
    rintro e w1 ⟨rfl, hb1⟩
    have ⟨k1, f1, y1⟩ := keep3 hb1 (w.heap.size + 1) (by simp)
    have B1 : Below w.heap.size w w1 := later (by go_grown) hb1
    go_wp2_with fail
    refine bodyPost_ret (v := .agg #[.int .i64 0, .int .i64 0, .slice none 0 0]) (by simp [results, Try.results39, go_sem, k1]) rfl ?_
    rw [← HV.out]
    exact ⟨none, 0, rfl, Own.nil _ _ _ _ _ (Nat.le_refl _), by go_grown⟩
  cases ho : Pl.inB o 0 7
  case false =>
    have HV := Lib.hid (show Pl.Img.zero = Pl.oriented ⟨W, H, zs⟩ o by simp [Pl.oriented, ho])
    go_enter Try.func39, Try.ntmps39
    go_wp2_with fail
    refine (specImageOk _ _ _ _ _ lo hi zs _ (G.out.step (by go_grown))).mono ?_
    rw [hok]
    rintro e w1 ⟨rfl, hb1⟩
    have ⟨k1, f1, y1⟩ := keep3 hb1 (w.heap.size + 1) (by simp)
    have B1 : Below w.heap.size w w1 := later (by go_grown) hb1
    go_wp2_with (go_at_call 48; ((with_reducible refine (l01In_any _ _ _ _).mono ?_)); rintro e w' ⟨rfl, rfl⟩)
    refine bodyPost_ret (v := .agg #[.int .i64 0, .int .i64 0, .slice none 0 0]) (by simp [results, Try.results39, go_sem, k1]) rfl ?_
    rw [← HV.out]
    exact ⟨none, 0, rfl, Own.nil _ _ _ _ _ (Nat.le_refl _), by go_grown⟩
  obtain ⟨⟨W1, W2⟩, ⟨H1, H2⟩, e3, _⟩ := Pl.imageOk_t hok
  simp only at W1 W2 H1 H2 e3
  rw [L.out] at e3
  have ⟨o0, o7⟩ := Pl.inB_t ho
  have HV := Lib.hid (show (⟨Pl.orientW W H o, Pl.orientH W H o, Pl.orTo ⟨W, H, zs⟩ o zs.length (List.replicate (Pl.orN ⟨W, H, zs⟩ o) 0)⟩ : Pl.Img) = Pl.oriented ⟨W, H, zs⟩ o by simp [Pl.oriented, hok, ho])
  obtain ⟨X, rfl⟩ := Int.eq_ofNat_of_zero_le (show 0 ≤ W by omega)
  obtain ⟨Y, rfl⟩ := Int.eq_ofNat_of_zero_le (show 0 ≤ H by omega)
  have eN : n = X * Y := by rw [← Int.natCast_mul] at e3; omega
  have EN := Lib.hid eN
  obtain ⟨⟨m1, m2⟩, ⟨m3, m4⟩, m5⟩ := Pl.orient_bd (w := X) (h := Y) (o := o) ⟨W1, W2⟩ ⟨H1, H2⟩ ⟨o0, o7⟩
  have ⟨m6, m7⟩ := Pl.mul_bd (a := Pl.orientW X Y o) (b := Pl.orientH X Y o) (A := 16) (B := 16) (by omega) (by omega) (by omega) (by omega)
  have HN : Hid (Pl.orientW X Y o * Pl.orientH X Y o = ((Pl.orN ⟨X, Y, zs⟩ o : Nat) : Int)) := by show _ = _; simp only [Pl.orN]; omega
  have hn2 : Pl.orN ⟨X, Y, zs⟩ o ≤ 256 := by have := HN.out; omega
  clear e3 eN m5
  go_enter Try.func39, Try.ntmps39
  go_wp2_with fail
  refine (specImageOk _ _ _ _ _ lo hi zs _ (G.out.step (by go_grown))).mono ?_
  rw [hok]
  rintro e w1 ⟨rfl, hb1⟩
  have XA := Lib.hid (Box.of3 hb1 w.heap.size (by simp; omega) (v0 := .int .i64 X) (v1 := .int .i64 Y) (v2 := .slice A n c) (by simp [go_sem]) (by simp [go_sem]) (by simp [go_sem]))
  have ⟨k1, f1, z1⟩ := keep3 hb1 (w.heap.size + 1) (by simp)
  have XR := Lib.hid (Box.of3 hb1 (w.heap.size + 1) (by simp) (v0 := .int .i64 0) (v1 := .int .i64 0) (v2 := .slice none 0 0) (by simp [go_sem]) (by simp [go_sem]) (by simp [go_sem]))
  have FR := Lib.hid (show ∀ o, w1.frozen? ⟨w.heap.size + 1, o, none⟩ = false from fun o => by rw [f1]; simp [go_sem])
  have B1 : Below w.heap.size w w1 := later (by go_grown) hb1
  have s1 := B1.size
  have G1 := Lib.hid (G.out.step B1)
  have ⟨qa0, qa1, qa2, qa3⟩ := XA.out.open3
  clear k1 f1 hb1
  go_wp2_with (first | (first | (go_at_call 48; ((with_reducible refine (l01In_any _ _ _ _).mono ?_)); rintro e w' ⟨rfl, rfl⟩) | (go_at_call 75; ((with_reducible refine (specOrientSize _ _ _ _).mono ?_)); rintro e w' ⟨rfl, rfl⟩)) | (at_make; refine wpList_make_full _ rfl _ _ 22 rfl w1.heap.size 3 i0 (.int .i64 0) 1 Try.underlying22 hi0 hz0 hz1 _ _ _ _ (Pl.orN ⟨X, Y, zs⟩ o) rfl rfl HN.out HN.out (by rw [hz2]; omega) (by unfold maxLen; omega) (Nat.le_refl _) ?_))
  intro w2 hown hgrow
  have hb2 : Below w1.heap.size w1 w2 := (Below.refl _ _).grown hgrow (Nat.le_refl _) (by simp)
  have O2 := Own.of_row hown
  rw [toList_madeCells_one] at O2
  have O3 : Hid (Ints w2 w1.heap.size w2.heap.size (.slice (some ⟨w1.heap.size, 0, none⟩) (Pl.orN ⟨X, Y, zs⟩ o) (Pl.orN ⟨X, Y, zs⟩ o)) (List.replicate (Pl.orN ⟨X, Y, zs⟩ o) 0)) := by
    show Own _ _ _ _ _ _ _ _
    simpa using O2
  have lt2 : w1.heap.size < w2.heap.size := (hown.lt _ rfl).2
  have XA2 := Lib.hid (XA.out.step hb2)
  have XR2 := Lib.hid (XR.out.step hb2)
  have G2 := Lib.hid (G1.out.step hb2)
  have FR2 := Lib.hid (show ∀ o, w2.frozen? ⟨w.heap.size + 1, o, none⟩ = false from fun o => (hb2.frozen (p := ⟨w.heap.size + 1, o, none⟩) XR.out.1).trans (FR.out o))
  have B2 : Below w.heap.size w w2 := later B1 hb2
  have s2 := B2.size
  clear hown hgrow O2 qa0 qa1 qa2 qa3 XA XR FR G1
  have ⟨qa0, qa1, qa2, qa3⟩ := XA2.out.open3
  go_wp2_with fail
  go_loopw [8] (fun i wr => ∃ q : Nat, q ≤ Y ∧ i = .int .i64 q ∧ Hid (Ints wr w1.heap.size w2.heap.size (.slice (some ⟨w1.heap.size, 0, none⟩) (Pl.orN ⟨X, Y, zs⟩ o) (Pl.orN ⟨X, Y, zs⟩ o)) (Pl.orTo ⟨X, Y, zs⟩ o (q * X) (List.replicate (Pl.orN ⟨X, Y, zs⟩ o) 0))) ∧ Out w1.heap.size w2.heap.size w2 wr ∧ Hid (Box wr w2.heap.size [.int .i64 (Pl.orientW X Y o), .int .i64 (Pl.orientH X Y o), (.slice (some ⟨w1.heap.size, 0, none⟩) (Pl.orN ⟨X, Y, zs⟩ o) (Pl.orN ⟨X, Y, zs⟩ o))])) (fun i _ => Y - (intOf i).toNat)
  case atStart => exact ⟨0, by omega, rfl, by have := Own.alloc O3.out (.cells #[.int .i64 (Pl.orientW X Y o), .int .i64 (Pl.orientH X Y o), (.slice (some ⟨w1.heap.size, 0, none⟩) (Pl.orN ⟨X, Y, zs⟩ o) (Pl.orN ⟨X, Y, zs⟩ o))] 27); rw [Nat.zero_mul]; exact this, (Out.refl _ _ _).alloc _, Box.of3 (Below.refl _ _) w2.heap.size (by simp) (by simp [go_sem]) (by simp [go_sem]) (by simp [go_sem])⟩
  case round =>
    clear qa0 qa1 qa2 qa3 O3
    obtain ⟨q, hq, rfl, GR, ho2, XB⟩ := hrel
    have ⟨qb0, qb1, qb2, qb3⟩ := XB.out.open3
    have s3 := ho2.size
    have ⟨qa0, qa1, qa2, qa3⟩ := (XA2.out.out ho2 (.inl (by omega))).open3
    by_cases hlt : q < Y
    · obtain ⟨wo, rfl⟩ : ∃ wo : World, wo = wr := ⟨_, rfl⟩
      go_wp2_with fail
      clear qa0 qa1 qa2 qa3 qb0 qb1 qb2 qb3
      go_loopw [9] (fun i wr => ∃ p : Nat, p ≤ X ∧ i = .int .i64 p ∧ Hid (Ints wr w1.heap.size w2.heap.size (.slice (some ⟨w1.heap.size, 0, none⟩) (Pl.orN ⟨X, Y, zs⟩ o) (Pl.orN ⟨X, Y, zs⟩ o)) (Pl.orTo ⟨X, Y, zs⟩ o (q * X + p) (List.replicate (Pl.orN ⟨X, Y, zs⟩ o) 0))) ∧ Out w1.heap.size w2.heap.size w2 wr ∧ Hid (Box wr w2.heap.size [.int .i64 (Pl.orientW X Y o), .int .i64 (Pl.orientH X Y o), (.slice (some ⟨w1.heap.size, 0, none⟩) (Pl.orN ⟨X, Y, zs⟩ o) (Pl.orN ⟨X, Y, zs⟩ o))])) (fun i _ => X - (intOf i).toNat)
      case atStart => exact ⟨0, by omega, rfl, by simpa using GR, ho2, XB⟩
      case round =>
        clear GR ho2 XB s3
        obtain ⟨p, hp, rfl, GR, ho2, XB⟩ := hrel
        have ⟨qb0, qb1, qb2, qb3⟩ := XB.out.open3
        have s3 := ho2.size
        have ⟨qa0, qa1, qa2, qa3⟩ := (XA2.out.out ho2 (.inl (by omega))).open3
        by_cases hlt2 : p < X
        · have PB := Pl.place2 hlt hlt2 (show X ≤ 16 by omega) (show Y ≤ 16 by omega)
          have hkn : q * X + p < n := by
            have h1 : (q + 1) * X ≤ Y * X := Nat.mul_le_mul_right _ hlt
            rw [EN.out, Nat.mul_comm X Y]
            omega
          have HKN := Lib.hid PB
          clear PB
          obtain ⟨g, z, rfl, _, hg, e1, cc, _⟩ := (G2.out.out ho2 (.inl (by have := G.out.hi_le; omega))).at_ hkn
          have hgl : g < w1.heap.size := by have := G.out.hi_le; omega
          have RM := Pl.row_mod (q := q) hlt2
          obtain ⟨hin, j1, j2, ⟨j3, j4⟩, ⟨j5, j6⟩⟩ := Pl.oriIx_in (zs := zs) (W := X) (H := Y) (o := o) (k := q * X + p) ⟨by omega, by omega⟩ ⟨by omega, by omega⟩ ⟨o0, o7⟩ (by rw [← EN.out]; exact hkn)
          rw [RM.1, RM.2] at j3 j4 j5 j6
          have HZ := Lib.hid (show Pl.ix zs ((q * X + p : Nat) : Int) = z from Pl.ix_get e1)
          rw [HN.out] at j2
          obtain ⟨t, ht⟩ := Int.eq_ofNat_of_zero_le j1
          obtain ⟨g', zo, eg, lg, hg', e2, cc2, cf2⟩ := GR.out.at_ (k := t) (by omega)
          injection eg with eg
          injection eg with eg
          subst eg
          have HT := Lib.hid ht
          have hixe : Pl.oriY X Y o p q * Pl.orientW X Y o + Pl.oriX X Y o p q = Pl.oriIx ⟨X, Y, zs⟩ o (q * X + p) := by unfold Pl.oriIx; simp only; rw [RM.1, RM.2]
          have tn : (Pl.oriY X Y o p q * Pl.orientW X Y o + Pl.oriX X Y o p q).toNat = t := by rw [hixe, ht]; simp
          have cc2' : wr.cell? ⟨w1.heap.size, (Pl.oriY X Y o p q * Pl.orientW X Y o + Pl.oriX X Y o p q).toNat, none⟩ = some (.int .i64 zo) := by rw [tn]; exact cc2
          have cf2' : wr.frozen? ⟨w1.heap.size, (Pl.oriY X Y o p q * Pl.orientW X Y o + Pl.oriX X Y o p q).toNat, none⟩ = false := by rw [tn]; exact cf2
          have j7 : 0 ≤ Pl.oriY X Y o p q * Pl.orientW X Y o + Pl.oriX X Y o p q := by rw [hixe]; exact j1
          have j8 : Pl.oriY X Y o p q * Pl.orientW X Y o + Pl.oriX X Y o p q < ((Pl.orN ⟨X, Y, zs⟩ o : Nat) : Int) := by rw [hixe]; exact j2
          have ⟨j9, j10⟩ := Pl.mul_bd (a := Pl.oriY X Y o p q) (b := Pl.orientW X Y o) (A := 15) (B := 16) (by omega) (by omega) (by omega) (by omega)
          have TN := Lib.hid tn
          have d1 : 0 ≤ (q : Int) * X ∧ (q : Int) * X ≤ 256 := by rw [← Int.natCast_mul]; have := HKN.out.1; omega
          obtain ⟨d2, d3⟩ := d1
          have d4 : (q : Int) * X + p < n := by rw [← Int.natCast_mul]; omega
          have d5 : ((q : Int) * X + p).toNat = q * X + p := by rw [← Int.natCast_mul]; omega
          have cc' : wr.cell? ⟨g, ((q : Int) * X + p).toNat, none⟩ = some (.int .i64 z) := by rw [d5]; exact cc
          clear e1 e2 ht hixe tn cc2 cf2 hin j1 j2 RM d5
          go_wp2_with (go_at_call 76; ((with_reducible refine (specOrientPoint _ _ _ _ _ _).mono ?_)); rintro e w' ⟨rfl, rfl⟩)
          have u1 : IntKind.i64.wrap (Pl.oriY X Y o p q * Pl.orientW X Y o) = Pl.oriY X Y o p q * Pl.orientW X Y o := IntWalk.i64_in _ ⟨by omega, by omega⟩
          have u2 : IntKind.i64.wrap (Pl.oriY X Y o p q * Pl.orientW X Y o + Pl.oriX X Y o p q) = Pl.oriY X Y o p q * Pl.orientW X Y o + Pl.oriX X Y o p q := IntWalk.i64_in _ ⟨by omega, by omega⟩
          have u3 : IntKind.i64.wrap ((q : Int) * X) = (q : Int) * X := IntWalk.i64_in _ ⟨by omega, by omega⟩
          have u4 : IntKind.i64.wrap ((q : Int) * X + p) = (q : Int) * X + p := IntWalk.i64_in _ ⟨by omega, by omega⟩
          have d6 : 0 ≤ (q : Int) * X + p := by omega
          go_region
          clear u1 u2 u3 u4
          go_wp2_with fail
          go_roundw
          case rel =>
            refine ⟨p + 1, by omega, by go_num, ?_, ?_, ?_⟩
            · show Ints _ _ _ _ ((Pl.orTo ⟨X, Y, zs⟩ o (q * X + p) (List.replicate (Pl.orN ⟨X, Y, zs⟩ o) 0)).set (Pl.oriIx ⟨X, Y, zs⟩ o (q * X + p)).toNat (Pl.ix zs ((q * X + p : Nat) : Int)))
              rw [HT.out, HZ.out, TN.out, show ((t : Int)).toNat = t from rfl]
              exact GR.out.stored t z
            · exact (Out.drew ho2).setCell (by simp) (by simpa using lt2) _
            · exact XB.out.out ((Out.drew (Out.refl w1.heap.size w2.heap.size wr)).setCell (by simp) (by simpa using lt2) _) (.inr (Nat.le_refl _))
          case measure => simp [intOf]; omega
        · obtain rfl : p = X := by omega
          go_wp2_with fail
          go_roundw
          case rel => exact ⟨q + 1, by omega, by go_num, by rw [Nat.add_mul, Nat.one_mul]; exact GR, ho2, XB⟩
          case measure => simp [intOf]; omega
    · obtain rfl : Y = q := by omega

      have B3 : Below w.heap.size w wr := below_out B2 ho2 (by omega) s2
      have ⟨qr0, qr1, qr2, qr3⟩ := (XR2.out.out ho2 (.inl z1)).open3
      have fr0 : wr.frozen? ⟨w.heap.size + 1, 0, none⟩ = false := ((ho2.keep (w.heap.size + 1) (by omega) (.inl z1)).2 0).trans (FR2.out 0)
      have fr1 : wr.frozen? ⟨w.heap.size + 1, 1, none⟩ = false := ((ho2.keep (w.heap.size + 1) (by omega) (.inl z1)).2 1).trans (FR2.out 1)
      have fr2 : wr.frozen? ⟨w.heap.size + 1, 2, none⟩ = false := ((ho2.keep (w.heap.size + 1) (by omega) (.inl z1)).2 2).trans (FR2.out 2)
      go_wp2_with fail
      refine bodyPost_ret (v := .agg #[.int .i64 (Pl.orientW X Y o), .int .i64 (Pl.orientH X Y o), .slice (some ⟨w1.heap.size, 0, none⟩) (Pl.orN ⟨X, Y, zs⟩ o) (Pl.orN ⟨X, Y, zs⟩ o)]) (by simp [results, Try.results39, go_sem, qr1, qr2, qr3]) rfl ?_
      rw [← HV.out]
      have hlen : (Pl.orTo ⟨X, Y, zs⟩ o zs.length (List.replicate (Pl.orN ⟨X, Y, zs⟩ o) 0)).length = Pl.orN ⟨X, Y, zs⟩ o := by rw [Pl.orTo_length, List.length_replicate]
      refine ⟨some ⟨w1.heap.size, 0, none⟩, Pl.orN ⟨X, Y, zs⟩ o, by simp only [hlen], ?_, by go_grown⟩
      simp only [hlen]
      have h := Own.far (Own.far (Own.far GR.out (p := ⟨w.heap.size + 1, 0, none⟩) (.inl z1) (.int .i64 (Pl.orientW X Y o))) (p := ⟨w.heap.size + 1, 1, none⟩) (.inl z1) (.int .i64 (Pl.orientH X Y o))) (p := ⟨w.heap.size + 1, 2, none⟩) (.inl z1) (.slice (some ⟨w1.heap.size, 0, none⟩) (Pl.orN ⟨X, Y, zs⟩ o) (Pl.orN ⟨X, Y, zs⟩ o))
      rw [Nat.mul_comm, ← EN.out, ← L.out] at h
      exact Own.mono h (by omega) (by simp [World.setCell]; omega) (by simp [World.setCell])
end Go.Proofs.Ytbgemonpkncldaa
