/- Words: rows of texts. -/
import Derived.Test.YtepjjlaipindnaaDoorTx1
import Derived.Test.YtepjjlaipindnaaDoorTxS0
namespace Go.Proofs.YtepjjlaipindnaaDoor
open Go.RowKit Go.Instr
set_option linter.unusedVariables false
set_option linter.unusedSimpArgs false
theorem Tryd.infoText : (Tryd.prog.info? 9).map (fun i => (i.zero, i.size, i.bytes)) = some (some (.string ⟨#[]⟩), 1, 16) := by kernel_rfl
def scells (L : List (List UInt8)) : List Value := L.map fun l => Value.string ⟨l.toArray⟩
theorem scells_length (L : List (List UInt8)) : (scells L).length = L.length := by simp [scells]
theorem scells_append (L M : List (List UInt8)) : scells (L ++ M) = scells L ++ scells M := by simp [scells]
theorem scells_one (L : List (List UInt8)) : ∀ u ∈ scells L, u.oneCell' = true := by
  intro u hu
  simp only [scells, List.mem_map] at hu
  obtain ⟨b, _, rfl⟩ := hu
  rfl
theorem scells_get {L : List (List UInt8)} {k : Nat} {l : List UInt8} (h : L[k]? = some l) : (scells L)[k]? = some (.string ⟨l.toArray⟩) := by simp [scells, h]
/-- Texts. -/
def Strs (w : World) (lo hi : Nat) (v : Value) (L : List (List UInt8)) : Prop := Own w lo hi 9 1 v L.length (scells L)
section
variable {w w' : World} {lo hi : Nat} {v : Value} {L : List (List UInt8)}
theorem Strs.shape (h : Strs w lo hi v L) : ∃ A cap, v = .slice A L.length cap ∧ L.length ≤ cap ∧ cap ≤ maxLen := Own.shape h
theorem Strs.at_ {A : Option Addr} {n cap k : Nat} (h : Strs w lo hi (.slice A n cap) L) (hn : L.length = n) (hk : k < n) : ∃ g l, A = some ⟨g, 0, none⟩ ∧ lo ≤ g ∧ g < hi ∧ L[k]? = some l ∧ w.cell? ⟨g, k, none⟩ = some (.string ⟨l.toArray⟩) ∧ w.frozen? ⟨g, k, none⟩ = false ∧ g < w.heap.size := by
  subst hn
  obtain ⟨g, rfl, h1, h2, h3, h4⟩ := Own.at_ h (by omega)
  refine ⟨g, L[k], rfl, h1, h2, List.getElem?_eq_getElem hk, ?_, h4 k, Nat.lt_of_lt_of_le h2 h.2.2⟩
  rw [h3 k (by omega)]
  exact scells_get (List.getElem?_eq_getElem hk)
theorem Strs.stored {g n cap : Nat} (h : Strs w lo hi (.slice (some ⟨g, 0, none⟩) n cap) L) (hn : L.length = n) (j : Nat) (l : List UInt8) : Strs (w.setCell ⟨g, j, none⟩ (.string ⟨l.toArray⟩)) lo hi (.slice (some ⟨g, 0, none⟩) n cap) (L.set j l) := by
  subst hn
  have := Own.stored h j (.string ⟨l.toArray⟩)
  unfold Strs
  rw [show scells (L.set j l) = (scells L).set j (.string ⟨l.toArray⟩) by simp [scells, List.map_set], List.length_set]
  exact this
theorem Strs.below {B : Nat} (h : Strs w lo hi v L) (hb : Below B w w') (hB : hi ≤ B) : Strs w' lo hi v L := Own.below h hb hB
theorem Strs.out {lo' hi' : Nat} (h : Strs w lo hi v L) (hb : Out lo' hi' w w') (hB : hi ≤ lo' ∨ hi' ≤ lo) : Strs w' lo hi v L := Own.out h hb hB
theorem Strs.hi_le (h : Strs w lo hi v L) : hi ≤ w.heap.size := h.2.2
theorem Strs.nil (w : World) (lo hi : Nat) (hh : hi ≤ w.heap.size) : Strs w lo hi (.slice none 0 0) [] := Own.nil w lo hi 9 1 hh
theorem Strs.of_row {n : Nat} {xs : List Value} (h : w.ownsRow lo 9 1 v n xs) (hn : L.length = n) (hx : xs = scells L) : Strs w lo w.heap.size v L := by
  subst hn hx
  exact Own.of_row h
end
theorem Strs.lit (w : World) (L : List (List UInt8)) (hn : L.length ≤ 1000) : Strs (w.alloc (.cells (scells L).toArray 9)) w.heap.size (w.heap.size + 1) (.slice (some ⟨w.heap.size, 0, none⟩) L.length L.length) L := by
  have h := World.ownsRow_lit (base := w.heap.size) (e := 9) (size := 1) w (scells L).toArray L.length (Nat.le_refl _) (by unfold maxLen; omega) (by simp [scells])
  have h2 := Own.mono (hi' := w.heap.size + 1) (Own.of_row h) (Nat.le_refl _) (by simp) (by simp)
  unfold Strs
  simpa using h2
end Go.Proofs.YtepjjlaipindnaaDoor
