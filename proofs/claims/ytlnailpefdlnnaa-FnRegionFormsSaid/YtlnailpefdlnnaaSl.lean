/- Contracts of the small functions over slices of integers: compare, copy, mark, look again. -/
import Derived.Test.YtlnailpefdlnnaaBase
import Derived.Test.YtlnailpefdlnnaaOwn
import Derived.Deep.QuietTactic
import Derived.BigQuiet
namespace Go.Proofs.Ytlnailpefdlnnaa.Pl
theorem take_snoc {α : Type} {l : List α} {k : Nat} {a : α} (h : l[k]? = some a) : l.take (k + 1) = l.take k ++ [a] := by
  rw [List.take_add_one, h]; rfl
theorem take_eq_of_le {α : Type} {l m : List α} {k n : Nat} (h : l.take k = m.take k) (h1 : l.length = n) (h2 : m.length = n) (hk : n ≤ k) : l = m := by
  rwa [List.take_of_length_le (by omega), List.take_of_length_le (by omega)] at h
/-- What is left of the law's measure. -/
def szd (left : Int) (n : Nat) : Int := if left < n then -1 else left - n
/-- The marks: k, k + 1, .. -/
def marks (k : Int) (n : Nat) : List Int := (List.range n).map fun (i : Nat) => k + i
theorem marks_length (k : Int) (n : Nat) : (marks k n).length = n := by simp [marks]
theorem marks_get {k : Int} {n i : Nat} (h : i < n) : (marks k n)[i]? = some (k + i) := by simp [marks, h]
theorem marks_set (k : Int) (i : Nat) (zs : List Int) (h : i < zs.length) : (marks k i ++ zs.drop i).set i (k + i) = marks k (i + 1) ++ zs.drop (i + 1) := by
  rw [List.set_append_right _ _ (by rw [marks_length]; exact Nat.le_refl _), marks_length, Nat.sub_self, List.drop_eq_getElem_cons h, List.set_cons_zero]
  simp [marks, List.range_succ]
theorem copy_set {zs : List Int} {i n : Nat} {z : Int} (h : zs[i]? = some z) (hn : zs.length = n) : (zs.take i ++ List.replicate (n - i) 0).set i z = zs.take (i + 1) ++ List.replicate (n - (i + 1)) 0 := by
  have hi := (List.getElem?_eq_some_iff.1 h).1
  have e : (zs.take i).length = i := by simp; omega
  rw [List.set_append_right _ _ (by omega), e, Nat.sub_self, show n - i = (n - (i + 1)) + 1 by omega, List.replicate_succ, List.set_cons_zero, take_snoc h]
  simp
end Go.Proofs.Ytlnailpefdlnnaa.Pl
namespace Go.Proofs.Ytlnailpefdlnnaa
open Go.RowKit
end Go.Proofs.Ytlnailpefdlnnaa
