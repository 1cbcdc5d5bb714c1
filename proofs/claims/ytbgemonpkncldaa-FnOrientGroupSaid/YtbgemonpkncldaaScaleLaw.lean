/- Plain laws of scaling: a picture enlarged twice can be brought back. No program in sight. -/
import Derived.Test.YtbgemonpkncldaaImg0
namespace Go.Proofs.Ytbgemonpkncldaa.Pl
theorem sp_val {f t k : Int} (hf : 1 ≤ f ∧ f ≤ 16) (ht : 1 ≤ t ∧ t ≤ 16) (hk : 0 ≤ k ∧ k < t) : scalePoint f t k = k * f / t := by
  unfold scalePoint
  rw [inB_mk hf, inB_mk ht, inB_mk (n := k) (lo := 0) (hi := t - 1) (by omega)]
  rfl
theorem sp_up {X k x : Int} (hX : 1 ≤ X ∧ X ≤ 8) (hk : k = 1 ∨ k = 2) (hx : 0 ≤ x ∧ x < X) : scalePoint X (k * X) (k * x) = x := by
  have e : scalePoint X (k * X) (k * x) = k * x * X / (k * X) := by
    rcases hk with rfl | rfl
    · exact sp_val (by omega) (by omega) (by omega)
    · exact sp_val (by omega) (by omega) (by omega)
  rw [e, show k * x * X = (k * X) * x by rw [Int.mul_right_comm]]
  exact Int.mul_ediv_cancel_left x (by rcases hk with rfl | rfl <;> omega)
theorem sp_down {X k x : Int} (hX : 1 ≤ X ∧ X ≤ 8) (hk : k = 1 ∨ k = 2) (hx : 0 ≤ x ∧ x < X) : scalePoint (k * X) X x = k * x := by
  have e : scalePoint (k * X) X x = x * (k * X) / X := by
    rcases hk with rfl | rfl
    · exact sp_val (by omega) (by omega) (by omega)
    · exact sp_val (by omega) (by omega) (by omega)
  rw [e, ← Int.mul_assoc, Int.mul_ediv_cancel _ (by omega), Int.mul_comm]
theorem sp_same {X x : Int} (hX : 1 ≤ X ∧ X ≤ 8) (hx : 0 ≤ x ∧ x < X) : scalePoint X X x = x := by
  have h := sp_down hX (.inl rfl) hx
  simpa using h
theorem sp_last {X k : Int} (hX : 1 ≤ X ∧ X ≤ 8) (hk : k = 1 ∨ k = 2) : scalePoint X (k * X) (k * X - 1) = X - 1 := by
  have h : X = 1 ∨ X = 2 ∨ X = 3 ∨ X = 4 ∨ X = 5 ∨ X = 6 ∨ X = 7 ∨ X = 8 := by omega
  rcases hk with rfl | rfl <;> rcases h with rfl | rfl | rfl | rfl | rfl | rfl | rfl | rfl <;> decide
theorem sp_mono {X k m : Int} (hX : 1 ≤ X ∧ X ≤ 8) (hk : k = 1 ∨ k = 2) (hm : 0 ≤ m ∧ m < k * X) : 0 ≤ scalePoint X (k * X) m ∧ scalePoint X (k * X) m ≤ X - 1 := by
  have hb : 1 ≤ k * X ∧ k * X ≤ 16 := by rcases hk with rfl | rfl <;> omega
  rw [sp_val (by omega) hb hm]
  refine ⟨Int.ediv_nonneg (Int.mul_nonneg hm.1 (by omega)) (by omega), ?_⟩
  have h1 : m * X / (k * X) < X := Int.ediv_lt_of_lt_mul (by omega) (by
    rw [Int.mul_comm X (k * X)]
    exact Int.mul_lt_mul_of_pos_right hm.2 (by omega))
  omega
/-- A picture is the table of its own pixels. -/
theorem tab_self {X Y : Nat} {d : List Int} (f : Nat → Nat → Int) (hd : d.length = Y * X) (hf : ∀ x y, x < X → y < Y → f x y = ix d ((y * X + x : Nat) : Int)) : tabTo X f (Y * X) = d := by
  apply List.ext_getElem?
  intro j
  by_cases hj : j < Y * X
  · have hX : 0 < X := Nat.pos_of_ne_zero (by rintro rfl; simp at hj)
    have h1 : j % X < X := Nat.mod_lt _ hX
    have h2 : j / X < Y := by rw [Nat.div_lt_iff_lt_mul hX]; exact hj
    have e : j / X * X + j % X = j := by rw [Nat.mul_comm]; exact Nat.div_add_mod j X
    have h3 := tabTo_get f (n := Y * X) h1 (y := j / X) (by rw [e]; exact hj)
    rw [e] at h3
    rw [h3, hf _ _ h1 h2, e, ix, Int.toNat_natCast, List.getD_eq_getElem?_getD, List.getElem?_eq_getElem (by omega)]
    rfl
  · rw [List.getElem?_eq_none (by rw [tabTo_length]; omega), List.getElem?_eq_none (by omega)]
section
variable {X Y : Nat} {zs : List Int}
theorem ok_dims (ok : imageOk ⟨X, Y, zs⟩ = true) : 1 ≤ X ∧ 1 ≤ Y ∧ zs.length = Y * X := by
  obtain ⟨h1, h2, h3, _⟩ := imageOk_t ok
  simp only at h1 h2 h3
  refine ⟨by omega, by omega, ?_⟩
  rw [← Int.natCast_mul, Nat.mul_comm] at h3
  omega
theorem tab_nat' (f : Nat → Nat → Int) : tab (X : Int) (Y : Int) f = tabTo X f (Y * X) := by
  unfold tab
  rw [← Int.natCast_mul, Int.toNat_natCast, Int.toNat_natCast]
theorem scaled_val {w h : Int} (ok : imageOk ⟨X, Y, zs⟩ = true) (h1 : 1 ≤ w ∧ w ≤ 16) (h2 : 1 ≤ h ∧ h ≤ 16) : scaled ⟨X, Y, zs⟩ w h = ⟨w, h, tab w h (scaleAt ⟨X, Y, zs⟩ w h)⟩ := by
  unfold scaled
  rw [ok, inB_mk h1, inB_mk h2]
  rfl
theorem scaled_same (ok : imageOk ⟨X, Y, zs⟩ = true) (hX : X ≤ 8) (hY : Y ≤ 8) : scaled ⟨X, Y, zs⟩ X Y = ⟨X, Y, zs⟩ := by
  obtain ⟨h1, h2, h3⟩ := ok_dims ok
  rw [scaled_val ok (by omega) (by omega), tab_nat']
  congr 1
  apply tab_self _ h3
  intro x y hx hy
  unfold scaleAt
  simp only
  rw [sp_same (by omega) (by omega), sp_same (by omega) (by omega)]
  congr 1
theorem tile_same (ok : imageOk ⟨X, Y, zs⟩ = true) (hX : X ≤ 8) (hY : Y ≤ 8) : tile ⟨X, Y, zs⟩ X Y = ⟨X, Y, zs⟩ := by
  obtain ⟨h1, h2, h3⟩ := ok_dims ok
  unfold tile
  rw [ok, inB_mk (n := (X : Int)) (lo := 1) (hi := 16) (by omega), inB_mk (n := (Y : Int)) (lo := 1) (hi := 16) (by omega)]
  simp only [Bool.and_self, if_true]
  rw [tab_nat']
  congr 1
  apply tab_self _ h3
  intro x y hx hy
  unfold tileAt
  simp only
  rw [Int.emod_eq_of_lt (by omega) (by omega), Int.emod_eq_of_lt (by omega) (by omega)]
  congr 1
/-- Enlarged, and brought back. -/
theorem scaled_back {k : Nat} (ok : imageOk ⟨X, Y, zs⟩ = true) (hX : X ≤ 8) (hY : Y ≤ 8) (hk : k = 1 ∨ k = 2) :
    ∃ ds : List Int, scaled ⟨X, Y, zs⟩ ((k : Int) * X) ((k : Int) * Y) = ⟨(k : Int) * X, (k : Int) * Y, ds⟩ ∧ scaled ⟨(k : Int) * X, (k : Int) * Y, ds⟩ X Y = ⟨X, Y, zs⟩ := by
  obtain ⟨h1, h2, h3⟩ := ok_dims ok
  have kk : (k : Int) = 1 ∨ (k : Int) = 2 := by omega
  have b1 : 1 ≤ (k : Int) * X ∧ (k : Int) * X ≤ 16 := by rcases hk with rfl | rfl <;> omega
  have b2 : 1 ≤ (k : Int) * Y ∧ (k : Int) * Y ≤ 16 := by rcases hk with rfl | rfl <;> omega
  refine ⟨_, scaled_val ok b1 b2, ?_⟩
  have pix := (imageOk_t ok).2.2.2
  have ok2 : imageOk ⟨(k : Int) * X, (k : Int) * Y, tab ((k : Int) * X) ((k : Int) * Y) (scaleAt ⟨X, Y, zs⟩ ((k : Int) * X) ((k : Int) * Y))⟩ = true := by
    refine imageOk_mk b1 b2 ?_ ?_
    · unfold tab
      rw [tabTo_length, ← Int.natCast_mul, ← Int.natCast_mul, ← Int.natCast_mul, Int.toNat_natCast, ← Int.natCast_mul, Nat.mul_comm]
    · intro z hz
      unfold tab tabTo at hz
      obtain ⟨j, hj, rfl⟩ := List.mem_map.1 hz
      rw [← Int.natCast_mul, ← Int.natCast_mul, Int.toNat_natCast] at *
      rw [← Int.natCast_mul, Int.toNat_natCast] at hj
      have hj' := List.mem_range.1 hj
      have hkX : 0 < k * X := by rcases hk with rfl | rfl <;> omega
      have q1 : j % (k * X) < k * X := Nat.mod_lt _ hkX
      have q2 : j / (k * X) < k * Y := by rw [Nat.div_lt_iff_lt_mul hkX]; exact hj'
      unfold scaleAt
      simp only
      generalize j % (k * X) = aa at *
      generalize j / (k * X) = bb at *
      have m1 := sp_mono (X := X) (k := k) (m := (aa : Nat)) (by omega) kk (by rw [← Int.natCast_mul]; omega)
      have m2 := sp_mono (X := Y) (k := k) (m := (bb : Nat)) (by omega) kk (by rw [← Int.natCast_mul]; omega)
      rw [← Int.natCast_mul] at m1 m2
      obtain ⟨p, hp⟩ := Int.eq_ofNat_of_zero_le m1.1
      obtain ⟨q, hq⟩ := Int.eq_ofNat_of_zero_le m2.1
      rw [hp, hq, ← Int.natCast_mul, ← Int.natCast_add, ix, Int.toNat_natCast, List.getD_eq_getElem?_getD]
      have hlt : q * X + p < zs.length := by
        rw [h3]
        have : (q + 1) * X ≤ Y * X := Nat.mul_le_mul_right X (by omega)
        rw [Nat.succ_mul] at this
        omega
      rw [List.getElem?_eq_getElem hlt]
      exact pix _ (List.getElem_mem hlt)
  unfold scaled
  rw [ok2, inB_mk (n := (X : Int)) (lo := 1) (hi := 16) (by omega), inB_mk (n := (Y : Int)) (lo := 1) (hi := 16) (by omega)]
  simp only [Bool.and_self, if_true]
  rw [tab_nat']
  congr 1
  apply tab_self _ h3
  intro x y hx hy
  show ix (tab ((k : Int) * X) ((k : Int) * Y) (scaleAt ⟨X, Y, zs⟩ ((k : Int) * X) ((k : Int) * Y))) (scalePoint ((k : Int) * Y) Y y * ((k : Int) * X) + scalePoint ((k : Int) * X) X x) = _
  rw [sp_down (by omega) kk (by omega), sp_down (by omega) kk (by omega)]
  have e1 : (k : Int) * y * ((k : Int) * X) + (k : Int) * x = ((k * y * (k * X) + k * x : Nat) : Int) := by simp
  have g1 : k * x < k * X := Nat.mul_lt_mul_of_pos_left hx (by omega)
  have g2 : k * y < k * Y := Nat.mul_lt_mul_of_pos_left hy (by omega)
  have g3 : k * y * (k * X) + k * x < k * Y * (k * X) := by
    have : (k * y + 1) * (k * X) ≤ k * Y * (k * X) := Nat.mul_le_mul_right _ (by omega)
    rw [Nat.succ_mul] at this
    omega
  have g4 := tabTo_get (w := k * X) (x := k * x) (y := k * y) (n := k * Y * (k * X)) (scaleAt ⟨X, Y, zs⟩ ((k : Int) * X) ((k : Int) * Y)) g1 g3
  have e2 : tab ((k : Int) * X) ((k : Int) * Y) (scaleAt ⟨X, Y, zs⟩ ((k : Int) * X) ((k : Int) * Y)) = tabTo (k * X) (scaleAt ⟨X, Y, zs⟩ ((k : Int) * X) ((k : Int) * Y)) (k * Y * (k * X)) := by
    unfold tab
    rw [← Int.natCast_mul, ← Int.natCast_mul, Int.toNat_natCast, ← Int.natCast_mul, Int.toNat_natCast]
  rw [e1, e2, ix_get g4]
  unfold scaleAt
  simp only
  rw [Int.natCast_mul, Int.natCast_mul, sp_up (by omega) kk (by omega), sp_up (by omega) kk (by omega)]
  congr 1
end
end Go.Proofs.Ytbgemonpkncldaa.Pl
