/- Plain laws of orientations: they can be combined and undone. No program in sight. -/
import Derived.Test.YtbgemonpkncldaaOri0
import Derived.Test.YtbgemonpkncldaaScaleLaw
namespace Go.Proofs.Ytbgemonpkncldaa.Pl
set_option linter.unusedVariables false
def rX (w h o x y : Int) : Int := if o % 4 = 0 then flipX w o x else if o % 4 = 1 then h - 1 - y else if o % 4 = 2 then w - 1 - flipX w o x else y
def rY (w h o x y : Int) : Int := if o % 4 = 0 then y else if o % 4 = 1 then flipX w o x else if o % 4 = 2 then h - 1 - y else w - 1 - flipX w o x
def rW (w h o : Int) : Int := if o % 2 = 1 then h else w
def rH (w h o : Int) : Int := if o % 2 = 1 then w else h
theorem oriX_r {w h o x y : Int} (hi : oriIn w h o x y = true) : oriX w h o x y = rX w h o x y := by unfold oriX rX; rw [if_pos hi]
theorem oriY_r {w h o x y : Int} (hi : oriIn w h o x y = true) : oriY w h o x y = rY w h o x y := by unfold oriY rY; rw [if_pos hi]
theorem orientW_r {w h o : Int} (hw : 1 ≤ w ∧ w ≤ 16) (hh : 1 ≤ h ∧ h ≤ 16) (ho : 0 ≤ o ∧ o ≤ 7) : orientW w h o = rW w h o := by simp only [orientW, rW, inB_mk hw, inB_mk hh, inB_mk ho, Bool.and_self, if_true]
theorem orientH_r {w h o : Int} (hw : 1 ≤ w ∧ w ≤ 16) (hh : 1 ≤ h ∧ h ≤ 16) (ho : 0 ≤ o ∧ o ≤ 7) : orientH w h o = rH w h o := by simp only [orientH, rH, inB_mk hw, inB_mk hh, inB_mk ho, Bool.and_self, if_true]
theorem eight {o : Int} (h : 0 ≤ o ∧ o ≤ 7) : o = 0 ∨ o = 1 ∨ o = 2 ∨ o = 3 ∨ o = 4 ∨ o = 5 ∨ o = 6 ∨ o = 7 := by omega
theorem then_bd {a b : Int} (ha : 0 ≤ a ∧ a ≤ 7) (hb : 0 ≤ b ∧ b ≤ 7) : 0 ≤ thenOrient a b ∧ thenOrient a b ≤ 7 := by
  rcases eight ha with rfl | rfl | rfl | rfl | rfl | rfl | rfl | rfl <;> rcases eight hb with rfl | rfl | rfl | rfl | rfl | rfl | rfl | rfl <;> decide
theorem undo_bd {a : Int} (ha : 0 ≤ a ∧ a ≤ 7) : (0 ≤ undoOrient a ∧ undoOrient a ≤ 7) ∧ thenOrient a (undoOrient a) = 0 ∧ thenOrient (undoOrient a) a = 0 := by
  rcases eight ha with rfl | rfl | rfl | rfl | rfl | rfl | rfl | rfl <;> decide
theorem comp_r {w h x y a b : Int} (ha : 0 ≤ a ∧ a ≤ 7) (hb : 0 ≤ b ∧ b ≤ 7) :
    rX (rW w h a) (rH w h a) b (rX w h a x y) (rY w h a x y) = rX w h (thenOrient a b) x y ∧ rY (rW w h a) (rH w h a) b (rX w h a x y) (rY w h a x y) = rY w h (thenOrient a b) x y ∧
    rW (rW w h a) (rH w h a) b = rW w h (thenOrient a b) ∧ rH (rW w h a) (rH w h a) b = rH w h (thenOrient a b) := by
  rcases eight ha with rfl | rfl | rfl | rfl | rfl | rfl | rfl | rfl <;> rcases eight hb with rfl | rfl | rfl | rfl | rfl | rfl | rfl | rfl <;>
    (simp [rX, rY, rW, rH, flipX, thenOrient, inB]; try omega)
theorem rX_in {w h o x y : Int} (ho : 0 ≤ o ∧ o ≤ 7) (hx : 0 ≤ x ∧ x < w) (hy : 0 ≤ y ∧ y < h) : (0 ≤ rX w h o x y ∧ rX w h o x y < rW w h o) ∧ (0 ≤ rY w h o x y ∧ rY w h o x y < rH w h o) := by
  rcases eight ho with rfl | rfl | rfl | rfl | rfl | rfl | rfl | rfl <;> (simp [rX, rY, rW, rH, flipX]; omega)
theorem rW_bd {w h o : Int} (hw : 1 ≤ w ∧ w ≤ 16) (hh : 1 ≤ h ∧ h ≤ 16) : (1 ≤ rW w h o ∧ rW w h o ≤ 16) ∧ (1 ≤ rH w h o ∧ rH w h o ≤ 16) := by
  unfold rW rH; split <;> omega
theorem r_zero (w h x y : Int) : rX w h 0 x y = x ∧ rY w h 0 x y = y ∧ rW w h 0 = w ∧ rH w h 0 = h := by simp [rX, rY, rW, rH, flipX]
/-- A point of the turned picture comes from a point of the picture. -/
theorem r_onto {w h o p q : Int} (hw : 1 ≤ w ∧ w ≤ 16) (hh : 1 ≤ h ∧ h ≤ 16) (ho : 0 ≤ o ∧ o ≤ 7) (hp : 0 ≤ p ∧ p < rW w h o) (hq : 0 ≤ q ∧ q < rH w h o) : ∃ x y : Int, (0 ≤ x ∧ x < w) ∧ (0 ≤ y ∧ y < h) ∧ rX w h o x y = p ∧ rY w h o x y = q := by
  obtain ⟨hu, e1, e2⟩ := undo_bd ho
  obtain ⟨_, _, c3, c4⟩ := comp_r (w := w) (h := h) (x := 0) (y := 0) ho hu
  rw [e1, (r_zero w h 0 0).2.2.1] at c3
  rw [e1, (r_zero w h 0 0).2.2.2] at c4
  obtain ⟨i1, i2⟩ := rX_in hu hp hq
  rw [c3] at i1
  rw [c4] at i2
  obtain ⟨d1, d2, _, _⟩ := comp_r (w := rW w h o) (h := rH w h o) (x := p) (y := q) hu ho
  rw [e2, c3, c4, (r_zero _ _ p q).1] at d1
  rw [e2, c3, c4, (r_zero _ _ p q).2.1] at d2
  exact ⟨_, _, i1, i2, d1, d2⟩
theorem r_inj {w h o x y x' y' : Int} (ho : 0 ≤ o ∧ o ≤ 7) (e1 : rX w h o x y = rX w h o x' y') (e2 : rY w h o x y = rY w h o x' y') : x = x' ∧ y = y' := by
  rcases eight ho with rfl | rfl | rfl | rfl | rfl | rfl | rfl | rfl <;> (simp [rX, rY, flipX] at e1 e2; omega)
/-- The pixel that goes to a place is found there. -/
theorem orTo_get (i : Img) (o : Int) (N : Nat) (d : List Int) (hin : ∀ k, k < N → (oriIx i o k).toNat < d.length) (hinj : ∀ k l, k < N → l < N → (oriIx i o k).toNat = (oriIx i o l).toNat → k = l) :
    ∀ n, n ≤ N → ∀ k, k < n → (orTo i o n d)[(oriIx i o k).toNat]? = some (ix i.d k) := by
  intro n
  induction n with
  | zero => intro _ k hk; omega
  | succ n ih =>
    intro hn k hk
    show ((orTo i o n d).set (oriIx i o n).toNat (ix i.d n))[_]? = _
    by_cases e : k = n
    · subst e
      rw [List.getElem?_set_self (by rw [orTo_length]; exact hin k (by omega))]
    · rw [List.getElem?_set_ne (fun h => e ((hinj n k (by omega) (by omega) h).symm))]
      exact ih (by omega) k (by omega)
section
variable {W H : Nat} {zs : List Int}
/-- What an oriented image is, pixel by pixel. -/
structure Turned (W H : Nat) (zs : List Int) (o : Int) (W' H' : Nat) (ds : List Int) : Prop where
  w : (W' : Int) = rW W H o
  h : (H' : Int) = rH W H o
  ok : imageOk ⟨W', H', ds⟩ = true
  at_ : ∀ x y : Int, 0 ≤ x ∧ x < W → 0 ≤ y ∧ y < H → ix ds (rY W H o x y * W' + rX W H o x y) = ix zs (y * W + x)
theorem oriented_turned {o : Int} (ok : imageOk ⟨W, H, zs⟩ = true) (ho : 0 ≤ o ∧ o ≤ 7) : ∃ (W' H' : Nat) (ds : List Int), oriented ⟨W, H, zs⟩ o = ⟨W', H', ds⟩ ∧ Turned W H zs o W' H' ds := by
  obtain ⟨hw, hh, _, pix⟩ := imageOk_t ok
  obtain ⟨h1, h2, h3⟩ := ok_dims ok
  simp only at hw hh pix
  obtain ⟨bw, bh⟩ := rW_bd (o := o) hw hh
  obtain ⟨W', hW'⟩ := Int.eq_ofNat_of_zero_le (show 0 ≤ rW W H o by omega)
  obtain ⟨H', hH'⟩ := Int.eq_ofNat_of_zero_le (show 0 ≤ rH W H o by omega)
  have eN : W' * H' = W * H := by
    have : (W' : Int) * H' = W * H := by
      rw [← hW', ← hH']
      unfold rW rH
      split
      · exact Int.mul_comm _ _
      · rfl
    rw [← Int.natCast_mul, ← Int.natCast_mul] at this
    omega
  have eo : oriented ⟨W, H, zs⟩ o = ⟨(W' : Int), (H' : Int), orTo ⟨W, H, zs⟩ o zs.length (List.replicate (W' * H') 0)⟩ := by
    unfold oriented
    rw [ok, inB_mk ho]
    simp only [Bool.and_self, if_true, orN, orientW_r hw hh ho, orientH_r hw hh ho, hW', hH', ← Int.natCast_mul, Int.toNat_natCast]
  have place' : ∀ k, k < zs.length → ∃ x y : Nat, x < W ∧ y < H ∧ k = y * W + x ∧ oriIx ⟨W, H, zs⟩ o k = rY W H o x y * W' + rX W H o x y ∧ 0 ≤ oriIx ⟨W, H, zs⟩ o k ∧ oriIx ⟨W, H, zs⟩ o k < W' * H' := by
    intro k hk
    have m1 : k % W < W := Nat.mod_lt _ (by omega)
    have m2 : k / W < H := by rw [Nat.div_lt_iff_lt_mul (by omega)]; omega
    have e : k / W * W + k % W = k := by rw [Nat.mul_comm]; exact Nat.div_add_mod k W
    refine ⟨k % W, k / W, m1, m2, e.symm, ?_⟩
    have i1 : oriIx ⟨W, H, zs⟩ o k = rY W H o (k % W : Nat) (k / W : Nat) * W' + rX W H o (k % W : Nat) (k / W : Nat) := by
      unfold oriIx
      simp only
      rw [← Int.natCast_emod, ← Int.natCast_ediv, orientW_r hw hh ho, hW']
      generalize k % W = aa at *
      generalize k / W = bb at *
      have hin := oriIn_mk (w := W) (h := H) (o := o) (x := aa) (y := bb) hw hh ho ⟨by omega, by omega⟩ ⟨by omega, by omega⟩
      rw [oriX_r hin, oriY_r hin]
    rw [i1]
    generalize k % W = aa at *
    generalize k / W = bb at *
    obtain ⟨p1, p2⟩ := rX_in (w := W) (h := H) (o := o) (x := aa) (y := bb) ho ⟨by omega, by omega⟩ ⟨by omega, by omega⟩
    rw [hW'] at p1 bw
    rw [hH'] at p2 bh
    have := place bw bh (x := rX W H o aa bb) (y := rY W H o aa bb) ⟨p1.1, by omega⟩ ⟨p2.1, by omega⟩
    exact ⟨rfl, this.1, this.2.1⟩
  have hin : ∀ k, k < zs.length → (oriIx ⟨W, H, zs⟩ o k).toNat < (List.replicate (W' * H') (0 : Int)).length := by
    intro k hk
    obtain ⟨_, _, _, _, _, _, q1, q2⟩ := place' k hk
    rw [← Int.natCast_mul] at q2
    rw [List.length_replicate]
    omega
  have hinj : ∀ k l, k < zs.length → l < zs.length → (oriIx ⟨W, H, zs⟩ o k).toNat = (oriIx ⟨W, H, zs⟩ o l).toNat → k = l := by
    intro k l hk hl e
    obtain ⟨x, y, x1, y1, ek, e1, q1, q2⟩ := place' k hk
    obtain ⟨x', y', x2, y2, el, e2, q3, q4⟩ := place' l hl
    have e3 : oriIx ⟨W, H, zs⟩ o k = oriIx ⟨W, H, zs⟩ o l := by omega
    rw [e1, e2] at e3
    obtain ⟨p1, p2⟩ := rX_in (w := W) (h := H) (o := o) (x := x) (y := y) ho ⟨by omega, by omega⟩ ⟨by omega, by omega⟩
    obtain ⟨p3, p4⟩ := rX_in (w := W) (h := H) (o := o) (x := x') (y := y') ho ⟨by omega, by omega⟩ ⟨by omega, by omega⟩
    rw [hW'] at p1 p3
    have e4 : rY W H o x y = rY W H o x' y' ∧ rX W H o x y = rX W H o x' y' := by
      have m1 := Int.add_mul_emod_self_right (a := rX W H o x y) (b := rY W H o x y) (c := (W' : Int))
      have m2 := Int.add_mul_emod_self_right (a := rX W H o x' y') (b := rY W H o x' y') (c := (W' : Int))
      rw [Int.emod_eq_of_lt p1.1 p1.2] at m1
      rw [Int.emod_eq_of_lt p3.1 p3.2] at m2
      rw [Int.add_comm] at m1 m2
      rw [e3] at m1
      have e5 : rX W H o x y = rX W H o x' y' := m1.symm.trans m2
      rw [e5] at e3
      exact ⟨Int.eq_of_mul_eq_mul_right (a := (W' : Int)) (by omega) (by omega), e5⟩
    obtain ⟨ex, ey⟩ := r_inj ho e4.2 e4.1
    have : x = x' := by omega
    have : y = y' := by omega
    subst_vars
    rfl
  refine ⟨W', H', _, eo, ⟨hW'.symm, hH'.symm, ?_, ?_⟩⟩
  · refine imageOk_mk (by rw [← hW']; exact bw) (by rw [← hH']; exact bh) (by rw [orTo_length, List.length_replicate, Int.natCast_mul]) ?_
    intro v hv
    obtain ⟨j, hj, rfl⟩ := List.mem_iff_getElem.1 hv
    rw [orTo_length, List.length_replicate] at hj
    have hW0 : 0 < W' := by omega
    have j1 : j % W' < W' := Nat.mod_lt _ hW0
    have j2 : j / W' < H' := by rw [Nat.div_lt_iff_lt_mul hW0, Nat.mul_comm]; exact hj
    have je : j / W' * W' + j % W' = j := by rw [Nat.mul_comm]; exact Nat.div_add_mod j W'
    obtain ⟨x, y, hx, hy, ex, ey⟩ := r_onto (p := (j % W' : Nat)) (q := (j / W' : Nat)) hw hh ho ⟨by omega, by rw [hW']; omega⟩ ⟨by generalize j / W' = aa at *; omega, by rw [hH']; generalize j / W' = aa at *; omega⟩
    obtain ⟨x, rfl⟩ := Int.eq_ofNat_of_zero_le hx.1
    obtain ⟨y, rfl⟩ := Int.eq_ofNat_of_zero_le hy.1
    have hk : y * W + x < zs.length := by
      rw [h3]
      have : (y + 1) * W ≤ H * W := Nat.mul_le_mul_right W (by omega)
      rw [Nat.succ_mul] at this
      omega
    have g := orTo_get ⟨W, H, zs⟩ o zs.length (List.replicate (W' * H') 0) hin hinj zs.length (Nat.le_refl _) (y * W + x) hk
    obtain ⟨x', y', x1, y1, ek, e1, _, _⟩ := place' (y * W + x) hk
    have r1 := (row_mod (p := x) (q := y) (X := W) (by omega))
    have r2 := (row_mod (p := x') (q := y') (X := W) x1)
    rw [← ek] at r2
    have ex' : x = x' := by have := r1.1.symm.trans r2.1; omega
    have ey' : y = y' := by have := r1.2.symm.trans r2.2; omega
    subst ex' ey'
    rw [e1, ex, ey, ← Int.natCast_mul, ← Int.natCast_add, je, Int.toNat_natCast] at g
    rw [List.getElem?_eq_getElem (by rw [orTo_length, List.length_replicate]; exact hj)] at g
    injection g with g
    rw [g]
    unfold ix
    rw [Int.toNat_natCast, List.getD_eq_getElem?_getD, List.getElem?_eq_getElem hk]
    exact pix _ (List.getElem_mem hk)
  · intro x y hx hy
    obtain ⟨x, rfl⟩ := Int.eq_ofNat_of_zero_le hx.1
    obtain ⟨y, rfl⟩ := Int.eq_ofNat_of_zero_le hy.1
    have hk : y * W + x < zs.length := by
      rw [h3]
      have : (y + 1) * W ≤ H * W := Nat.mul_le_mul_right W (by omega)
      rw [Nat.succ_mul] at this
      omega
    have g := orTo_get ⟨W, H, zs⟩ o zs.length (List.replicate (W' * H') 0) hin hinj zs.length (Nat.le_refl _) (y * W + x) hk
    obtain ⟨x', y', x1, y1, ek, e1, q1, _⟩ := place' (y * W + x) hk
    have r1 := (row_mod (p := x) (q := y) (X := W) (by omega))
    have r2 := (row_mod (p := x') (q := y') (X := W) x1)
    rw [← ek] at r2
    have ex' : x = x' := by have := r1.1.symm.trans r2.1; omega
    have ey' : y = y' := by have := r1.2.symm.trans r2.2; omega
    subst ex' ey'
    rw [← e1]
    have g2 : ix (orTo ⟨W, H, zs⟩ o zs.length (List.replicate (W' * H') 0)) (oriIx ⟨W, H, zs⟩ o (y * W + x : Nat)) = ix zs ((y * W + x : Nat) : Int) := by
      unfold ix at g ⊢
      rw [List.getD_eq_getElem?_getD, g]
      rfl
    rw [g2]
    simp
theorem Turned.zero (ok : imageOk ⟨W, H, zs⟩ = true) : Turned W H zs 0 W H zs := by
  refine ⟨((r_zero W H 0 0).2.2.1).symm, ((r_zero W H 0 0).2.2.2).symm, ok, fun x y _ _ => ?_⟩
  rw [(r_zero _ _ x y).1, (r_zero _ _ x y).2.1]
theorem Turned.comp {a b : Int} {W1 H1 W2 H2 : Nat} {d1 d2 : List Int} (ha : 0 ≤ a ∧ a ≤ 7) (hb : 0 ≤ b ∧ b ≤ 7) (t : Turned W H zs a W1 H1 d1) (u : Turned W1 H1 d1 b W2 H2 d2) : Turned W H zs (thenOrient a b) W2 H2 d2 := by
  refine ⟨?_, ?_, u.ok, fun x y hx hy => ?_⟩
  · rw [u.w, t.w, t.h]; exact (comp_r (x := 0) (y := 0) ha hb).2.2.1
  · rw [u.h, t.w, t.h]; exact (comp_r (x := 0) (y := 0) ha hb).2.2.2
  · obtain ⟨p1, p2⟩ := rX_in (w := W) (h := H) ha hx hy
    have e := u.at_ (rX W H a x y) (rY W H a x y) (by rw [t.w]; exact p1) (by rw [t.h]; exact p2)
    rw [t.at_ x y hx hy] at e
    have c := comp_r (w := W) (h := H) (x := x) (y := y) ha hb
    rw [← t.w, ← t.h] at c
    rw [c.1, c.2.1] at e
    exact e
theorem Turned.ext {o : Int} {W1 H1 W2 H2 : Nat} {d1 d2 : List Int} (ok : imageOk ⟨W, H, zs⟩ = true) (ho : 0 ≤ o ∧ o ≤ 7) (t : Turned W H zs o W1 H1 d1) (u : Turned W H zs o W2 H2 d2) : W1 = W2 ∧ H1 = H2 ∧ d1 = d2 := by
  have e1 : W1 = W2 := by have := t.w.trans u.w.symm; omega
  have e2 : H1 = H2 := by have := t.h.trans u.h.symm; omega
  subst e1 e2
  refine ⟨rfl, rfl, ?_⟩
  obtain ⟨hw, hh, _, _⟩ := imageOk_t ok
  simp only at hw hh
  obtain ⟨a1, _, l1⟩ := ok_dims t.ok
  obtain ⟨_, _, l2⟩ := ok_dims u.ok
  apply List.ext_getElem?
  intro j
  by_cases hj : j < H1 * W1
  · have j1 : j % W1 < W1 := Nat.mod_lt _ (by omega)
    have j2 : j / W1 < H1 := by rw [Nat.div_lt_iff_lt_mul (by omega)]; exact hj
    have je : j / W1 * W1 + j % W1 = j := by rw [Nat.mul_comm]; exact Nat.div_add_mod j W1
    obtain ⟨x, y, hx, hy, ex, ey⟩ := r_onto (p := (j % W1 : Nat)) (q := (j / W1 : Nat)) hw hh ho ⟨by omega, by rw [← t.w]; omega⟩ ⟨by generalize j / W1 = aa at *; omega, by rw [← t.h]; generalize j / W1 = aa at *; omega⟩
    have g1 := t.at_ x y hx hy
    have g2 := u.at_ x y hx hy
    rw [← g2, ex, ey, ← Int.natCast_mul, ← Int.natCast_add, je] at g1
    unfold ix at g1
    rw [Int.toNat_natCast, List.getD_eq_getElem?_getD, List.getD_eq_getElem?_getD, List.getElem?_eq_getElem (by omega), List.getElem?_eq_getElem (by omega)] at g1
    rw [List.getElem?_eq_getElem (by omega), List.getElem?_eq_getElem (by omega)]
    simpa using g1
  · rw [List.getElem?_eq_none (by omega), List.getElem?_eq_none (by omega)]
theorem pixelOf_in {w h : Nat} {d : List Int} {x y : Int} (ok : imageOk ⟨w, h, d⟩ = true) (hx : 0 ≤ x ∧ x < w) (hy : 0 ≤ y ∧ y < h) : pixelOf ⟨w, h, d⟩ x y = ix d (y * w + x) := by
  unfold pixelOf
  rw [ok, inB_mk (n := x) (lo := 0) (hi := (w : Int) - 1) (by omega), inB_mk (n := y) (lo := 0) (hi := (h : Int) - 1) (by omega)]
  rfl
/-- All that the law of the group asks. -/
theorem orient_all {a b : Int} (ok : imageOk ⟨W, H, zs⟩ = true) (ha : 0 ≤ a ∧ a ≤ 7) (hb : 0 ≤ b ∧ b ≤ 7) : ∃ (W1 H1 W2 H2 : Nat) (d1 d2 : List Int),
    oriented ⟨W, H, zs⟩ a = ⟨W1, H1, d1⟩ ∧ oriented ⟨W1, H1, d1⟩ b = ⟨W2, H2, d2⟩ ∧ oriented ⟨W, H, zs⟩ (thenOrient a b) = ⟨W2, H2, d2⟩ ∧ oriented ⟨W1, H1, d1⟩ (undoOrient a) = ⟨W, H, zs⟩ ∧
    orientW W H a = W1 ∧ orientH W H a = H1 ∧ ∀ x y : Int, 0 ≤ x ∧ x < W → 0 ≤ y ∧ y < H → pixelOf ⟨W1, H1, d1⟩ (oriX W H a x y) (oriY W H a x y) = pixelOf ⟨W, H, zs⟩ x y := by
  obtain ⟨hw, hh, _, _⟩ := imageOk_t ok
  simp only at hw hh
  obtain ⟨W1, H1, d1, e1, t1⟩ := oriented_turned ok ha
  obtain ⟨W2, H2, d2, e2, t2⟩ := oriented_turned t1.ok hb
  obtain ⟨W3, H3, d3, e3, t3⟩ := oriented_turned ok (then_bd ha hb)
  obtain ⟨hu, u1, u2⟩ := undo_bd ha
  obtain ⟨W4, H4, d4, e4, t4⟩ := oriented_turned t1.ok hu
  obtain ⟨rfl, rfl, rfl⟩ := Turned.ext ok (then_bd ha hb) (t1.comp ha hb t2) t3
  have t5 := t1.comp ha hu t4
  rw [u1] at t5
  obtain ⟨rfl, rfl, rfl⟩ := Turned.ext ok ⟨by omega, by omega⟩ t5 (Turned.zero ok)
  refine ⟨W1, H1, _, _, d1, _, e1, e2, e3, e4, ?_, ?_, fun x y hx hy => ?_⟩
  · rw [orientW_r hw hh ha, t1.w]
  · rw [orientH_r hw hh ha, t1.h]
  · have hin := oriIn_mk (x := x) (y := y) hw hh ha ⟨hx.1, by omega⟩ ⟨hy.1, by omega⟩
    obtain ⟨p1, p2⟩ := rX_in (w := (W4 : Int)) (h := (H4 : Int)) ha hx hy
    rw [oriX_r hin, oriY_r hin, pixelOf_in t1.ok (by rw [t1.w]; exact p1) (by rw [t1.h]; exact p2), pixelOf_in ok hx hy]
    exact t1.at_ x y hx hy
end
end Go.Proofs.Ytbgemonpkncldaa.Pl
