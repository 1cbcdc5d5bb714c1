/- Contracts over images: the laws' helpers, ImageOk, SameImage. -/
import Derived.Test.YtmjjepgnciibcaaSl
import Derived.Test.YtmjjepgnciibcaaImg0
namespace Go.Proofs.Ytmjjepgnciibcaa
open Go.RowKit

theorem Ints.gt {w : World} {lo hi : Nat} {A : Option Addr} {n cap k : Nat} {zs : List Int} (h : Ints w lo hi (.slice A n cap) zs) (hk : k < n) : ∃ g z, A = some ⟨g, 0, none⟩ ∧ g < w.heap.size ∧ zs[k]? = some z ∧ w.cell? ⟨g, k, none⟩ = some (.int .i64 z) := by
  obtain ⟨g, z, h1, _, h3, h4, h5, _⟩ := h.at_ hk
  exact ⟨g, z, h1, Nat.lt_of_lt_of_le h3 h.hi_le, h4, h5⟩
/-- A new image. -/
def NewImg (i : Pl.Img) (w : World) (e : Ending) (w' : World) : Prop := ∃ A c, e = .returned (.agg #[.int .i64 i.w, .int .i64 i.h, .slice A i.d.length c]) ∧ Ints w' w.heap.size w'.heap.size (.slice A i.d.length c) i.d ∧ Below w.heap.size w w'
theorem NewImg.later {i : Pl.Img} {w w0 : World} {e : Ending} {w' : World} (h : NewImg i w e w') (hb : Below w0.heap.size w0 w) : NewImg i w0 e w' := by
  obtain ⟨A, c, h1, h2, h3⟩ := h
  exact ⟨A, c, h1, Own.mono h2 hb.size (Nat.le_refl _) (Nat.le_refl _), hb.trans (h3.mono hb.size)⟩

theorem szImage_any (W H : Int) (A : Option Addr) (n c : Nat) (left : Int) (w : World) (h0 : 0 ≤ left) (h1 : left ≤ 1048576) (hn : n ≤ 9223372036854775807) : Calls Try.prog 6 #[.agg #[.int .i64 W, .int .i64 H, .slice A n c], .int .i64 left] w fun e w' => e = .returned (.int .i64 (Pl.szd left n)) ∧ Below w.heap.size w w' := by
  by_cases h : left < n
  · have hs : Pl.szd left n = -1 := by unfold Pl.szd; rw [if_pos h]
    have HS := Lib.hid hs
    clear hs
    go_enter Try.func6, Try.ntmps6
    go_wp2_with fail
    refine (szIntS_any _ _ _ _ _ h0 h1 hn).mono ?_
    rintro e w' ⟨rfl, rfl⟩
    rw [HS.out]
    go_wp2
    go_ret
    exact ⟨ret_int HS.out.symm, by go_grown⟩
  · have hs : 0 ≤ Pl.szd left n := by unfold Pl.szd; rw [if_neg h]; omega
    go_enter Try.func6, Try.ntmps6
    go_wp2_with fail
    refine (szIntS_any _ _ _ _ _ h0 h1 hn).mono ?_
    rintro e w' ⟨rfl, rfl⟩
    go_wp2
    go_ret
    exact ⟨rfl, by go_grown⟩
set_option maxHeartbeats 1000000 in
theorem toImage_any (W H : Int) (A : Option Addr) (n c : Nat) (zs : List Int) (w : World) (HA : Arg .i64 w A zs) (hn : zs.length = n) (hb : n ≤ 1048576) :
    Calls Try.prog 8 #[.agg #[.int .i64 W, .int .i64 H, .slice A n c]] w (NewImg ⟨W, H, zs⟩ w) := by
  have HN := Lib.hid hn
  have G := Lib.hid HA
  clear hn HA
  go_enter Try.func8, Try.ntmps8
  go_wp2_with fail
  refine (toIntS_any _ _ _ zs _ (G.out.below (by go_grown)) HN.out hb).mono ?_
  rintro e w1 ⟨A1, c1, rfl, O1, hb1⟩
  have ⟨k0, f0, y0⟩ := keep3 hb1 w.heap.size (by simp; omega)
  have ⟨k1, f1, y1⟩ := keep3 hb1 (w.heap.size + 1) (by simp)
  have ⟨k2, f2, y2⟩ := keep3 hb1 (w.heap.size + 1 + 1) (by simp)
  have B1 : Below w.heap.size w w1 := later (by go_grown) hb1
  have O2 := Lib.hid O1
  clear O1
  go_wp2_with fail
  refine bodyPost_ret (v := .agg #[.int .i64 W, .int .i64 H, .slice A1 zs.length c1]) (by simp [results, Try.results8, go_sem, k1]) rfl ⟨A1, c1, rfl, ?_, by go_grown⟩
  have := O2.out
  refine Own.mono (Own.far (Own.far (Own.far (Own.far this ?_ _) ?_ _) ?_ _) ?_ _) ?_ ?_ ?_
  all_goals (simp; try omega)
theorem markImage_any (W H : Int) (A : Option Addr) (n c lo hi : Nat) (zs : List Int) (k0 : Int) (w : World) (HI : Ints w lo hi (.slice A n c) zs) (h0 : 0 ≤ k0) (h1 : k0 + n ≤ 4611686018427387904) :
    Calls Try.prog 12 #[.agg #[.int .i64 W, .int .i64 H, .slice A n c], .int .i64 k0] w fun e w' => e = .returned (.int .i64 (k0 + n)) ∧ Ints w' lo hi (.slice A n c) (Pl.marks k0 n) ∧ Out lo hi w w' := by
  have G := Lib.hid HI
  clear HI
  go_enter Try.func12, Try.ntmps12
  go_wp2_with fail
  refine (markIntS_any _ _ _ lo hi zs _ _ (Own.alloc G.out _) h0 h1).mono ?_
  rintro e w1 ⟨rfl, O1, ho, hs⟩
  have O2 := Lib.hid O1
  clear O1 hs
  go_wp2_with fail
  go_ret
  exact ⟨rfl, O2.out, ((Out.refl _ _ _).alloc _).trans ho⟩
theorem heldImage_same (W H : Int) (A : Option Addr) (n c lo hi : Nat) (k0 : Int) (w : World) (HI : Ints w lo hi (.slice A n c) (Pl.marks k0 n)) (h0 : 0 ≤ k0) (h1 : k0 + n ≤ 4611686018427387904) :
    Calls Try.prog 19 #[.agg #[.int .i64 W, .int .i64 H, .slice A n c], .int .i64 k0] w fun e w' => e = .returned (.int .i64 (k0 + n)) ∧ Below w.heap.size w w' := by
  have G := Lib.hid HI
  clear HI
  go_enter Try.func19, Try.ntmps19
  go_wp2_with fail
  refine (heldIntS_same _ _ _ lo hi _ _ (Own.alloc G.out _) h0 h1).mono ?_
  rintro e w1 ⟨rfl, rfl⟩
  go_wp2_with fail
  go_ret
  exact ⟨rfl, by go_grown⟩
set_option maxHeartbeats 1000000 in
theorem eqImage_any (W1 H1 W2 H2 : Int) (A1 A2 : Option Addr) (n m c1 c2 l1 h1 l2 h2 : Nat) (zs ys : List Int) (w : World) (I1 : Ints w l1 h1 (.slice A1 n c1) zs) (I2 : Ints w l2 h2 (.slice A2 m c2) ys) :
    Calls Try.prog 11 #[.agg #[.int .i64 W1, .int .i64 H1, .slice A1 n c1], .agg #[.int .i64 W2, .int .i64 H2, .slice A2 m c2]] w fun e w' => e = .returned (.bool (decide (Pl.Img.mk W1 H1 zs = Pl.Img.mk W2 H2 ys))) ∧ Below w.heap.size w w' := by
  have G1 := Lib.hid I1
  have G2 := Lib.hid I2
  clear I1 I2
  by_cases hW : W1 = W2
  case neg =>
    have hb : (W1 != W2) = true := by simpa using hW
    go_enter Try.func11, Try.ntmps11
    go_wp2_with fail
    go_ret
    exact ⟨ret_bool (by simp [hW]), by go_grown⟩
  subst hW
  by_cases hH : H1 = H2
  case neg =>
    have hb : (H1 != H2) = true := by simpa using hH
    go_enter Try.func11, Try.ntmps11
    go_wp2_with fail
    go_ret
    exact ⟨ret_bool (by simp [hH]), by go_grown⟩
  subst hH
  by_cases hz : zs = ys
  · have hd := Lib.hid (show decide (zs = ys) = true by simpa using hz)
    have HZ := Lib.hid hz
    clear hz
    go_enter Try.func11, Try.ntmps11
    go_wp2_with fail
    refine (eqIntS_any _ _ _ _ _ _ l1 h1 l2 h2 zs ys _ (Own.alloc (Own.alloc G1.out _) _) (Own.alloc (Own.alloc G2.out _) _)).mono ?_
    rw [hd.out]
    rintro e w1 ⟨rfl, hb1⟩
    have B1 : Below w.heap.size w w1 := later (by go_grown) hb1
    go_wp2_with fail
    go_ret
    exact ⟨ret_bool (by simp [HZ.out]), B1⟩
  · have hd := Lib.hid (show decide (zs = ys) = false by simpa using hz)
    have HZ := Lib.hid hz
    clear hz
    go_enter Try.func11, Try.ntmps11
    go_wp2_with fail
    refine (eqIntS_any _ _ _ _ _ _ l1 h1 l2 h2 zs ys _ (Own.alloc (Own.alloc G1.out _) _) (Own.alloc (Own.alloc G2.out _) _)).mono ?_
    rw [hd.out]
    rintro e w1 ⟨rfl, hb1⟩
    have B1 : Below w.heap.size w w1 := later (by go_grown) hb1
    go_wp2_with fail
    go_ret
    exact ⟨ret_bool (by simp [HZ.out]), B1⟩
end Go.Proofs.Ytmjjepgnciibcaa
