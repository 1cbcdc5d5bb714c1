/- Plain texts: the fields of a line. No program in sight. -/
import Derived.Handy
import Derived.Lib.Fields
import Derived.Lib.FieldsLaws
namespace Go.Proofs.YtepjjlaipindnaaDoor.Pl
set_option linter.unusedVariables false
set_option linter.unusedSimpArgs false
def okb (b : UInt8) : Bool := decide (32 ≤ b.toNat) && decide (b.toNat ≤ 126)
def splitFields (l : List UInt8) : List (List UInt8) × Bool := if l.length ≤ 600 ∧ l.all okb = true ∧ (Lib.fields l).length ≤ 24 then (Lib.fields l, true) else ([], false)
theorem isSp_iff (b : UInt8) : Lib.isSp b = (b.toNat == 9 || b.toNat == 10 || b.toNat == 11 || b.toNat == 12 || b.toNat == 13 || b.toNat == 32) := by
  have h : ∀ n : Nat, n < 256 → (b == UInt8.ofNat n) = (b.toNat == n) := by
    intro n hn
    rw [Bool.eq_iff_iff]
    simp only [beq_iff_eq]
    constructor
    · rintro rfl; rw [UInt8.toNat_ofNat']; omega
    · intro e; rw [← e]; simp
  unfold Lib.isSp
  rw [show (9 : UInt8) = UInt8.ofNat 9 by rfl, show (10 : UInt8) = UInt8.ofNat 10 by rfl, show (11 : UInt8) = UInt8.ofNat 11 by rfl, show (12 : UInt8) = UInt8.ofNat 12 by rfl, show (13 : UInt8) = UInt8.ofNat 13 by rfl, show (32 : UInt8) = UInt8.ofNat 32 by rfl]
  rw [h 9 (by decide), h 10 (by decide), h 11 (by decide), h 12 (by decide), h 13 (by decide), h 32 (by decide)]
theorem isSp_no {b : UInt8} {y : Nat} (hb : b.toNat = y) (h1 : 32 ≤ y) (h2 : y ≠ 32) : Lib.isSp b = false := by
  rw [isSp_iff, hb]
  simp
  omega
theorem isSp_yes {b : UInt8} (hb : b.toNat = 32) : Lib.isSp b = true := by rw [isSp_iff, hb]; rfl
/-- What the loop of SplitFields has: the fields D are done, one may be open from b on, k bytes are read. -/
def Fld (l : List UInt8) (k b : Nat) (D : List (List UInt8)) : Prop := (k ≤ l.length ∧ b ≤ k ∧ D ++ Lib.fieldsGo ((l.drop b).take (k - b)) (l.drop k) = Lib.fields l) ∨ (k = l.length + 1 ∧ b = k ∧ D = Lib.fields l)
theorem Fld.zero (l : List UInt8) : Fld l 0 0 [] := .inl ⟨Nat.zero_le _, Nat.le_refl _, by simp [Lib.fields]⟩
theorem Fld.begin_le {l : List UInt8} {k b : Nat} {D : List (List UInt8)} (h : Fld l k b D) : b ≤ k := by rcases h with ⟨_, h, _⟩ | ⟨_, h, _⟩ <;> omega
theorem Fld.more {l : List UInt8} {k b : Nat} {D : List (List UInt8)} {c : UInt8} (h : Fld l k b D) (hk : l[k]? = some c) (hc : Lib.isSp c = false) : Fld l (k + 1) b D := by
  have hlt := (List.getElem?_eq_some_iff.1 hk).1
  rcases h with ⟨h1, h2, h3⟩ | ⟨h1, _⟩
  · refine .inl ⟨by omega, by omega, ?_⟩
    rw [← h3, Lib.drop_at hk, Lib.fieldsGo_more _ _ _ hc, Lib.piece_more h2 hk]
  · omega
theorem Fld.cut {l : List UInt8} {k b : Nat} {D : List (List UInt8)} {c : UInt8} (h : Fld l k b D) (hk : l[k]? = some c) (hc : Lib.isSp c = true) (hb : b < k) : Fld l (k + 1) (k + 1) (D ++ [(l.drop b).take (k - b)]) := by
  have hlt := (List.getElem?_eq_some_iff.1 hk).1
  rcases h with ⟨h1, h2, h3⟩ | ⟨h1, _⟩
  · refine .inl ⟨by omega, by omega, ?_⟩
    rw [← h3, Lib.drop_at hk, Lib.fieldsGo_end _ _ _ hc (Lib.piece_ne hb (by omega)), Lib.piece_nil]
    simp
  · omega
theorem Fld.skip {l : List UInt8} {k b : Nat} {D : List (List UInt8)} {c : UInt8} (h : Fld l k b D) (hk : l[k]? = some c) (hc : Lib.isSp c = true) (hb : ¬ b < k) : Fld l (k + 1) (k + 1) D := by
  have hlt := (List.getElem?_eq_some_iff.1 hk).1
  rcases h with ⟨h1, h2, h3⟩ | ⟨h1, _⟩
  · obtain rfl : b = k := by omega
    refine .inl ⟨by omega, by omega, ?_⟩
    rw [← h3, Lib.piece_nil, Lib.piece_nil, Lib.drop_at hk, Lib.fieldsGo_sp _ _ hc]
  · omega
theorem Fld.cutEnd {l : List UInt8} {b : Nat} {D : List (List UInt8)} (h : Fld l l.length b D) (hb : b < l.length) : Fld l (l.length + 1) (l.length + 1) (D ++ [(l.drop b).take (l.length - b)]) := by
  rcases h with ⟨h1, h2, h3⟩ | ⟨h1, _⟩
  · refine .inr ⟨rfl, rfl, ?_⟩
    rw [← h3, List.drop_length]
    have hne : (l.drop b).take (l.length - b) ≠ [] := Lib.piece_ne hb (Nat.le_refl _)
    generalize (l.drop b).take (l.length - b) = p at hne
    cases p with
    | nil => exact absurd rfl hne
    | cons x xs => simp [Lib.fieldsGo]
  · omega
theorem Fld.skipEnd {l : List UInt8} {b : Nat} {D : List (List UInt8)} (h : Fld l l.length b D) (hb : ¬ b < l.length) : Fld l (l.length + 1) (l.length + 1) D := by
  rcases h with ⟨h1, h2, h3⟩ | ⟨h1, _⟩
  · obtain rfl : b = l.length := by omega
    refine .inr ⟨rfl, rfl, ?_⟩
    rw [← h3, List.drop_length]
    simp [Lib.fieldsGo]
  · omega
theorem Fld.done {l : List UInt8} {k b : Nat} {D : List (List UInt8)} (h : Fld l k b D) (hk : l.length < k) : D = Lib.fields l := by
  rcases h with ⟨h1, _⟩ | ⟨_, _, h3⟩
  · omega
  · exact h3
def width (fs : List (List UInt8)) : Nat := (fs.flatMap fun f => f ++ [32]).length
theorem width_go : ∀ (l cur : List UInt8), width (Lib.fieldsGo cur l) ≤ cur.length + l.length + 1
  | [], cur => by cases cur <;> simp [Lib.fieldsGo, width]
  | b :: l, cur => by
    have h0 := width_go l []
    have h1 := width_go l (cur ++ [b])
    cases hb : Lib.isSp b
    · simp only [Lib.fieldsGo, hb]
      simp at h1 ⊢
      omega
    · cases cur with
      | nil => simp only [Lib.fieldsGo, hb]; simp at h0 ⊢; omega
      | cons x xs =>
        simp only [Lib.fieldsGo, hb]
        simp [width] at h0 ⊢
        omega
theorem width_fields (l : List UInt8) : width (Lib.fields l) ≤ l.length + 1 := by simpa [Lib.fields] using width_go l []
theorem length_width (fs : List (List UInt8)) : fs.length ≤ width fs := by
  induction fs with
  | nil => simp
  | cons f fs ih => simp [width] at ih ⊢; omega
theorem width_app (a b : List (List UInt8)) : width (a ++ b) = width a + width b := by simp [width]
theorem Fld.count {l : List UInt8} {k b : Nat} {D : List (List UInt8)} (h : Fld l k b D) : D.length ≤ l.length + 1 := by
  have hw := width_fields l
  rcases h with ⟨_, _, h⟩ | ⟨_, _, h⟩
  · rw [← h, width_app] at hw
    have := length_width D
    omega
  · rw [h]
    have := length_width (Lib.fields l)
    omega
theorem split_good {l : List UInt8} (h1 : l.length ≤ 600) (h2 : l.all okb = true) (h3 : (Lib.fields l).length ≤ 24) : splitFields l = (Lib.fields l, true) := by unfold splitFields; rw [if_pos ⟨h1, h2, h3⟩]
theorem split_long {l : List UInt8} (h : 600 < l.length) : splitFields l = ([], false) := by unfold splitFields; rw [if_neg fun c => by have := c.1; omega]
theorem split_bad {l : List UInt8} {k : Nat} {b : UInt8} (h : l[k]? = some b) (hb : okb b = false) : splitFields l = ([], false) := by
  unfold splitFields
  rw [if_neg fun c => ?_]
  have := List.all_eq_true.1 c.2.1 b (List.mem_of_getElem? h)
  rw [hb] at this
  cases this
theorem split_many {l : List UInt8} (h : 24 < (Lib.fields l).length) : splitFields l = ([], false) := by unfold splitFields; rw [if_neg fun c => by have := c.2.2; omega]
theorem split_len (l : List UInt8) : (splitFields l).1.length ≤ 24 := by
  unfold splitFields
  split
  · next h => exact h.2.2
  · simp
theorem all_take_snoc {p : UInt8 → Bool} {l : List UInt8} {k : Nat} {b : UInt8} (h : l[k]? = some b) (hb : p b = true) (ha : (l.take k).all p = true) : (l.take (k + 1)).all p = true := by
  rw [List.take_add_one, h]
  simp only [List.all_append, ha, Option.toList_some, List.all_cons, hb, List.all_nil, Bool.and_true]
/-- The fields: not empty, without spaces, of the line's bytes. -/
theorem go_fields : ∀ (l cur : List UInt8), (∀ b ∈ cur, Lib.isSp b = false) → ∀ f ∈ Lib.fieldsGo cur l, f ≠ [] ∧ (∀ b ∈ f, Lib.isSp b = false) ∧ ∀ b ∈ f, b ∈ cur ∨ b ∈ l
  | [], cur, hc, f, hf => by
    cases cur with
    | nil => simp [Lib.fieldsGo] at hf
    | cons x xs =>
      simp [Lib.fieldsGo] at hf
      subst hf
      exact ⟨by simp, hc, fun b hb => .inl hb⟩
  | c :: l, cur, hc, f, hf => by
    cases hs : Lib.isSp c
    · rw [Lib.fieldsGo_more _ _ _ hs] at hf
      obtain ⟨h1, h2, h3⟩ := go_fields l (cur ++ [c]) (fun b hb => by
        rcases List.mem_append.1 hb with hb | hb
        · exact hc b hb
        · simp at hb; subst hb; exact hs) f hf
      refine ⟨h1, h2, fun b hb => ?_⟩
      rcases h3 b hb with h | h
      · rcases List.mem_append.1 h with h | h
        · exact .inl h
        · simp at h; subst h; exact .inr (by simp)
      · exact .inr (by simp [h])
    · have key : ∀ f ∈ Lib.fieldsGo [] l, f ≠ [] ∧ (∀ b ∈ f, Lib.isSp b = false) ∧ ∀ b ∈ f, b ∈ cur ∨ b ∈ c :: l := fun f hf => by
        obtain ⟨h1, h2, h3⟩ := go_fields l [] (fun b hb => by simp at hb) f hf
        refine ⟨h1, h2, fun b hb => ?_⟩
        rcases h3 b hb with h | h
        · simp at h
        · exact .inr (by simp [h])
      cases cur with
      | nil => rw [Lib.fieldsGo_sp _ _ hs] at hf; exact key f hf
      | cons x xs =>
        rw [Lib.fieldsGo_end _ _ _ hs (by simp)] at hf
        rcases List.mem_cons.1 hf with rfl | hf
        · exact ⟨by simp, hc, fun b hb => .inl hb⟩
        · exact key f hf
theorem go_word : ∀ (p cur r : List UInt8), (∀ b ∈ p, Lib.isSp b = false) → cur ++ p ≠ [] → Lib.fieldsGo cur (p ++ 32 :: r) = (cur ++ p) :: Lib.fieldsGo [] r
  | [], cur, r, _, hne => by
    rw [List.nil_append, Lib.fieldsGo_end cur 32 r (by decide) (by simpa using hne), List.append_nil]
  | b :: p, cur, r, hp, _ => by
    rw [List.cons_append, Lib.fieldsGo_more _ _ _ (hp b (by simp)), go_word p (cur ++ [b]) r (fun x hx => hp x (by simp [hx])) (by simp)]
    simp
theorem fields_join : ∀ (fs : List (List UInt8)), (∀ f ∈ fs, f ≠ [] ∧ ∀ b ∈ f, Lib.isSp b = false) → Lib.fields (fs.flatMap fun f => f ++ [32]) = fs
  | [], _ => by simp [Lib.fields, Lib.fieldsGo]
  | f :: fs, h => by
    have hf := h f (by simp)
    have ih := fields_join fs fun g hg => h g (by simp [hg])
    unfold Lib.fields at ih ⊢
    rw [List.flatMap_cons, List.append_assoc, List.singleton_append, go_word f [] _ hf.2 (by simpa using hf.1), ih]
    rfl
/-- The fields of a line, joined, have the same fields. -/
theorem split_again {l fs : List UInt8} {ps : List (List UInt8)} (h : splitFields l = (ps, true)) (hfs : fs = ps.flatMap fun f => f ++ [32]) (hlen : fs.length ≤ 600) : splitFields fs = (ps, true) := by
  unfold splitFields at h
  split at h
  · next hc =>
    obtain ⟨h1, h2, h3⟩ := hc
    obtain rfl : Lib.fields l = ps := by injection h
    have hg : ∀ f ∈ Lib.fields l, f ≠ [] ∧ (∀ b ∈ f, Lib.isSp b = false) ∧ ∀ b ∈ f, b ∈ l := fun f hf => by
      obtain ⟨a1, a2, a3⟩ := go_fields l [] (fun b hb => by simp at hb) f hf
      exact ⟨a1, a2, fun b hb => by simpa using a3 b hb⟩
    have hj := fields_join (Lib.fields l) fun f hf => ⟨(hg f hf).1, (hg f hf).2.1⟩
    subst hfs
    have := split_good (l := (Lib.fields l).flatMap fun f => f ++ [32]) hlen (by
      rw [List.all_eq_true]
      intro b hb
      obtain ⟨f, hf, hb⟩ := List.mem_flatMap.1 hb
      rcases List.mem_append.1 hb with hb | hb
      · exact List.all_eq_true.1 h2 b ((hg f hf).2.2 b hb)
      · simp at hb; subst hb; rfl) (by rw [hj]; exact h3)
    rw [this, hj]
  · injection h with _ h; cases h
theorem join_take {ps : List (List UInt8)} {k : Nat} {p : List UInt8} (h : ps[k]? = some p) : ((ps.take (k + 1)).flatMap fun f => f ++ [32]) = ((ps.take k).flatMap fun f => f ++ [32]) ++ p ++ [32] := by
  rw [List.take_add_one, h]
  simp
theorem join_len {l : List UInt8} {ps : List (List UInt8)} {b : Bool} (h : splitFields l = (ps, b)) (k : Nat) : ((ps.take k).flatMap fun f => f ++ [32]).length ≤ 601 := by
  unfold splitFields at h
  split at h
  · next hc =>
    obtain rfl : Lib.fields l = ps := by injection h
    have hw := width_fields l
    rw [← List.take_append_drop k (Lib.fields l), width_app] at hw
    have := hc.1
    show width _ ≤ _
    omega
  · obtain rfl : [] = ps := by injection h
    simp
end Go.Proofs.YtepjjlaipindnaaDoor.Pl
