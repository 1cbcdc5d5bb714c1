/- A law: append of a whole slice of rectangles, be it empty or not. -/
import Derived.Test.YtlnailpefdlnnaaRAcc
import Derived.Deep.Upon
namespace Go.Proofs.Ytlnailpefdlnnaa
open Go.RowKit
set_option linter.unusedVariables false
theorem RArg.news {w : World} {b off : Nat} {ys : List Pl.R} (h : RArg w (some ⟨b, off, none⟩) ys) : ∀ j u, (rcells ys)[j]? = some u → w.cell? ((⟨b, off, none⟩ : Addr).add j) = some u := by
  intro j u hu
  have hj : j < ys.length * 4 := by have := (List.getElem?_eq_some_iff.1 hu).1; rwa [rcells_length] at this
  have hk : j / 4 < ys.length := by omega
  have hr := List.getElem?_eq_getElem hk
  obtain ⟨b', off', e, _, hc⟩ := h (by omega)
  injection e with e
  injection e with e1 e2
  subst e1 e2
  obtain ⟨c0, c1, c2, c3⟩ := hc _ _ hr
  obtain ⟨g0, g1, g2, g3⟩ := rcells_get hr
  rw [Addr.add_mid]
  have hcase : j = j / 4 * 4 ∨ j = j / 4 * 4 + 1 ∨ j = j / 4 * 4 + 2 ∨ j = j / 4 * 4 + 3 := by omega
  rcases hcase with h | h | h | h
  · rw [h] at hu ⊢; rw [g0] at hu; injection hu with hu; subst hu; exact c0
  · rw [h] at hu ⊢; rw [g1] at hu; injection hu with hu; subst hu; exact c1
  · rw [h] at hu ⊢; rw [g2] at hu; injection hu with hu; subst hu; exact c2
  · rw [h] at hu ⊢; rw [g3] at hu; injection hu with hu; subst hu; exact c3
theorem rcells_all (ys : List Pl.R) : ∀ u ∈ rcells ys, u.oneCell' = true := rcells_one ys
theorem step_appendR {w : World} {ops : Array Oper} {o : Oper} {a : Act} {K : Act → World → Prop} {Q : Exit → Act → World → Prop} {E : Prop} (hgd : o.guard = none) (s x : Operand)
    (ho : o.op = .call { callee := .builtin .append, args := #[s, x], argTypes := #[27, 27] })
    (base : Nat) (v : Value) (ks : List Pl.R) (hs : a.eval s = v) (hown : w.ownsRow base 44 4 v ks.length (rcells ks))
    (B : Option Addr) (m c : Nat) (ys : List Pl.R) (hx : a.eval x = .slice B m c) (hy : RArg w B ys) (hl : ys.length = m) (hbd : ks.length + m ≤ 100000) (hbase : base ≤ w.heap.size)
    (h : ∀ v' w', w'.ownsRow base 44 4 v' (ks ++ ys).length (rcells (ks ++ ys)) → w.grownBy w' v.ownBlock → (v'.ownBlock = v.ownBlock ∨ ∀ g, v'.ownBlock = some g → w.heap.size ≤ g) → K (a.put o.dst v') w') :
    if Region.wanted o (yielded ops a.tmps) = true then Oper.wp Try.prog o a w K Q else E := by
  obtain ⟨i0, hi0, hz0, hz1, hz2⟩ := info_parts Try.infoRect
  subst hl
  by_cases hm : ys.length = 0
  · have hw : Region.wanted o (yielded ops a.tmps) = true := by simp [Region.wanted, hgd]
    rw [if_pos hw]
    have e : ys = [] := List.length_eq_zero_iff.1 hm
    subst e
    obtain ⟨A, cap, rfl, hle, _⟩ := Own.shape (Own.of_row hown)
    have hsrc : Src Try.prog i0.size 27 (.slice B 0 c) 0 [] w := by
      cases B with
      | none => exact Src.ofNil w Try.underlying27 c
      | some b => exact Src.ofSlice w Try.underlying27 b 0 c [] (by simp) (fun j u hu => by simp at hu) (fun u hu => by simp at hu)
    have hrun := run_append_nothing (P := Try.prog) w 27 27 o.type 44 i0 Try.underlying27 hi0 A ks.length cap hle (.slice B 0 c) hsrc
    have hx' : a.eval x = .slice B 0 c := hx
    have hk := h (.slice A ks.length cap) w (by simpa using hown) (World.grownBy.refl _ _) (.inl rfl)
    unfold Oper.wp execOp
    simp only [ho, resolve, invoke, builtin, Sem.run_bind, Sem.run_pure, Result.andThen_ok, List.map_toArray, List.map_cons, List.map_nil, hs, hx', hrun]
    exact hk
  · obtain ⟨b, off, rfl, _, _⟩ := hy (by omega)
    refine step_append_lies _ hgd s x 27 ho base 44 i0 (.agg #[.int .i64 0, .int .i64 0, .int .i64 0, .int .i64 0]) 4 32 Try.underlying27 hi0 hz0 hz1 hz2 rfl (by decide) v ks.length _ hs hown ⟨b, off, none⟩ ys.length c (rcells ys) hx (rcells_length ys) hy.news (rcells_one ys) (by omega) (by unfold maxLen; omega) (by omega) hbase w.heap.size rfl ?_
    intro g cap w' h1 h2 h3 h4
    refine h _ _ ?_ h2 ?_
    · rw [List.length_append, rcells_append]; exact h1
    · rcases h3 with h3 | h3
      · exact .inl (by rw [h3]; rfl)
      · refine .inr fun g' hg' => ?_
        have : g = g' := by simpa [Value.ownBlock] using hg'
        omega
end Go.Proofs.Ytlnailpefdlnnaa
