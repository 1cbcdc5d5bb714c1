/- Plain: the image in an orientation. No program in sight (but for the functions that XOriP names). -/
import Derived.Test.YtbgemonpkncldaaOriP
import Derived.Test.YtbgemonpkncldaaImg0
import Derived.Test.YtbgemonpkncldaaIm2
namespace Go.Proofs.Ytbgemonpkncldaa.Pl
def oriIx (i : Img) (o : Int) (k : Nat) : Int := oriY i.w i.h o ((k : Int) % i.w) ((k : Int) / i.w) * orientW i.w i.h o + oriX i.w i.h o ((k : Int) % i.w) ((k : Int) / i.w)
def orTo (i : Img) (o : Int) : Nat → List Int → List Int
  | 0, d => d
  | n + 1, d => (orTo i o n d).set (oriIx i o n).toNat (ix i.d n)
theorem orTo_length (i : Img) (o : Int) (n : Nat) (d : List Int) : (orTo i o n d).length = d.length := by
  induction n with
  | zero => rfl
  | succ n ih => simp [orTo, ih]
def orN (i : Img) (o : Int) : Nat := (orientW i.w i.h o * orientH i.w i.h o).toNat
def oriented (i : Img) (o : Int) : Img := if imageOk i && inB o 0 7 then ⟨orientW i.w i.h o, orientH i.w i.h o, orTo i o i.d.length (List.replicate (orN i o) 0)⟩ else Img.zero
theorem orient_bd {w h o : Int} (hw : 1 ≤ w ∧ w ≤ 16) (hh : 1 ≤ h ∧ h ≤ 16) (ho : 0 ≤ o ∧ o ≤ 7) : (1 ≤ orientW w h o ∧ orientW w h o ≤ 16) ∧ (1 ≤ orientH w h o ∧ orientH w h o ≤ 16) ∧ orientW w h o * orientH w h o = w * h := by
  simp only [orientW, orientH, inB_mk hw, inB_mk hh, inB_mk ho, Bool.and_self, if_true]
  split
  · exact ⟨hh, hw, Int.mul_comm _ _⟩
  · exact ⟨hw, hh, rfl⟩
theorem ori_in {w h o x y : Int} (hi : oriIn w h o x y = true) : (0 ≤ oriX w h o x y ∧ oriX w h o x y ≤ orientW w h o - 1) ∧ (0 ≤ oriY w h o x y ∧ oriY w h o x y ≤ orientH w h o - 1) := by
  obtain ⟨hw, hh, ho, hx, hy⟩ := oriIn_t hi
  simp only [oriX, oriY, hi, if_true, orientW, orientH, inB_mk hw, inB_mk hh, inB_mk ho, Bool.and_self, flipX]
  obtain rfl | rfl | rfl | rfl | rfl | rfl | rfl | rfl : o = 0 ∨ o = 1 ∨ o = 2 ∨ o = 3 ∨ o = 4 ∨ o = 5 ∨ o = 6 ∨ o = 7 := by omega
  all_goals (simp; omega)
theorem oriIn_mk {w h o x y : Int} (hw : 1 ≤ w ∧ w ≤ 16) (hh : 1 ≤ h ∧ h ≤ 16) (ho : 0 ≤ o ∧ o ≤ 7) (hx : 0 ≤ x ∧ x ≤ w - 1) (hy : 0 ≤ y ∧ y ≤ h - 1) : oriIn w h o x y = true := by
  simp only [oriIn, inB_mk hw, inB_mk hh, inB_mk ho, inB_mk hx, inB_mk hy, Bool.and_self]
/-- Where pixel k of a valid image goes lies within the new data. -/
theorem oriIx_in {W H : Nat} {zs : List Int} {o : Int} {k : Nat} (hw : 1 ≤ W ∧ W ≤ 16) (hh : 1 ≤ H ∧ H ≤ 16) (ho : 0 ≤ o ∧ o ≤ 7) (hk : k < W * H) : oriIn (W : Int) H o ((k : Int) % W) ((k : Int) / W) = true ∧ 0 ≤ oriIx ⟨W, H, zs⟩ o k ∧ oriIx ⟨W, H, zs⟩ o k < orientW W H o * orientH W H o ∧ (0 ≤ oriX W H o ((k : Int) % W) ((k : Int) / W) ∧ oriX W H o ((k : Int) % W) ((k : Int) / W) ≤ 15) ∧ (0 ≤ oriY W H o ((k : Int) % W) ((k : Int) / W) ∧ oriY W H o ((k : Int) % W) ((k : Int) / W) ≤ 15) := by
  have h1 : k % W < W := Nat.mod_lt _ (by omega)
  have h2 : k / W < H := (Nat.div_lt_iff_lt_mul (by omega)).2 (by rw [Nat.mul_comm]; exact hk)
  rw [← Int.natCast_emod, ← Int.natCast_ediv]
  have h1' : 0 ≤ ((k % W : Nat) : Int) ∧ ((k % W : Nat) : Int) ≤ (W : Int) - 1 := by generalize k % W = a at *; omega
  have h2' : 0 ≤ ((k / W : Nat) : Int) ∧ ((k / W : Nat) : Int) ≤ (H : Int) - 1 := by generalize k / W = a at *; omega
  have hin := oriIn_mk (w := W) (h := H) (o := o) (x := ((k % W : Nat) : Int)) (y := ((k / W : Nat) : Int)) (by omega) (by omega) ho h1' h2'
  obtain ⟨hx, hy⟩ := ori_in hin
  obtain ⟨bw, bh, _⟩ := orient_bd (w := W) (h := H) (o := o) (by omega) (by omega) ho
  have := place bw bh hx hy
  refine ⟨hin, ?_, ?_, ⟨hx.1, by omega⟩, ⟨hy.1, by omega⟩⟩
  · unfold oriIx; simp only; rw [← Int.natCast_emod, ← Int.natCast_ediv]; exact this.1
  · unfold oriIx; simp only; rw [← Int.natCast_emod, ← Int.natCast_ediv]; exact this.2.1
theorem row_mod {p q X : Nat} (h : p < X) : ((q * X + p : Nat) : Int) % X = p ∧ ((q * X + p : Nat) : Int) / X = q := by
  have e1 : (q * X + p) % X = p := by rw [Nat.add_comm, Nat.add_mul_mod_self_right]; exact Nat.mod_eq_of_lt h
  have e2 : (q * X + p) / X = q := by rw [Nat.add_comm, Nat.add_mul_div_right _ _ (by omega), Nat.div_eq_of_lt h]; omega
  rw [← Int.natCast_emod, ← Int.natCast_ediv, e1, e2]
  exact ⟨rfl, rfl⟩
theorem oriented_len (i : Img) (o : Int) : (oriented i o).d.length ≤ 256 := by
  unfold oriented
  split
  · rename_i h
    simp only [Bool.and_eq_true] at h
    obtain ⟨h1, h2, _⟩ := imageOk_t h.1
    obtain ⟨b1, b2, e⟩ := orient_bd h1 h2 (inB_t h.2)
    have c := mul_bd (a := orientW i.w i.h o) (b := orientH i.w i.h o) (A := 16) (B := 16) (by omega) (by omega) (by omega) (by omega)
    simp only [orTo_length, List.length_replicate, orN]
    omega
  · simp [Img.zero]
end Go.Proofs.Ytbgemonpkncldaa.Pl
