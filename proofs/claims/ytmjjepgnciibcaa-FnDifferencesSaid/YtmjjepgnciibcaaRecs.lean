/- Words for slices of rectangles: those that came in, those that the program itself makes. -/
import Derived.Test.YtmjjepgnciibcaaGridW
import Derived.Test.YtmjjepgnciibcaaSl
import Derived.Lib.SmallJoins
import Derived.Deep.Slices
import Derived.Deep.Fields
namespace Go.Proofs.Ytmjjepgnciibcaa
open Go.ChangeShapes Go.WideShapes Go.ChangeAt Go.RowKit Go.Joins Go.Deep
set_option linter.unusedVariables false
/-- A rectangle's cells. -/
def rc (r : Pl.R) : List Value := [.int .i64 r.x, .int .i64 r.y, .int .i64 r.w, .int .i64 r.h]
def rcells (rs : List Pl.R) : List Value := rs.flatMap rc
theorem rcells_nil : rcells [] = [] := rfl
theorem rcells_cons (r : Pl.R) (rs : List Pl.R) : rcells (r :: rs) = .int .i64 r.x :: .int .i64 r.y :: .int .i64 r.w :: .int .i64 r.h :: rcells rs := rfl
theorem rcells_append (a b : List Pl.R) : rcells (a ++ b) = rcells a ++ rcells b := by simp [rcells]
theorem rcells_length (rs : List Pl.R) : (rcells rs).length = rs.length * 4 := by
  induction rs with
  | nil => rfl
  | cons r rs ih => rw [rcells_cons]; simp only [List.length_cons, ih]; omega
theorem rcells_get {rs : List Pl.R} {k : Nat} {r : Pl.R} (h : rs[k]? = some r) : (rcells rs)[k * 4]? = some (.int .i64 r.x) ∧ (rcells rs)[k * 4 + 1]? = some (.int .i64 r.y) ∧ (rcells rs)[k * 4 + 2]? = some (.int .i64 r.w) ∧ (rcells rs)[k * 4 + 3]? = some (.int .i64 r.h) := by
  induction rs generalizing k with
  | nil => simp at h
  | cons q rs ih =>
    rw [rcells_cons]
    cases k with
    | zero => simp at h; subst h; simp
    | succ k =>
      have := ih (by simpa using h)
      rw [Nat.succ_mul]
      simpa using this
theorem rcells_set (rs : List Pl.R) (k : Nat) (r : Pl.R) (h : k < rs.length) : ((((rcells rs).set (k * 4) (.int .i64 r.x)).set (k * 4 + 1) (.int .i64 r.y)).set (k * 4 + 2) (.int .i64 r.w)).set (k * 4 + 3) (.int .i64 r.h) = rcells (rs.set k r) := by
  induction rs generalizing k with
  | nil => simp at h
  | cons q rs ih =>
    cases k with
    | zero => simp [rcells_cons]
    | succ k =>
      have := ih k (by simpa using h)
      rw [List.set_cons_succ, rcells_cons, rcells_cons, ← this, Nat.succ_mul]
      rfl
theorem rcells_one (rs : List Pl.R) : ∀ u ∈ rcells rs, u.oneCell' = true := by
  intro u hu
  simp only [rcells, List.mem_flatMap, rc, List.mem_cons, List.not_mem_nil, or_false] at hu
  obtain ⟨r, _, rfl | rfl | rfl | rfl⟩ := hu <;> rfl

/-- Rectangles, in memory that the program itself made. -/
def Recs (w : World) (lo hi : Nat) (v : Value) (rs : List Pl.R) : Prop := Own w lo hi 50 4 v rs.length (rcells rs)
section
variable {w w' : World} {lo hi : Nat} {v : Value} {rs : List Pl.R}
theorem Recs.shape (h : Recs w lo hi v rs) : ∃ A cap, v = .slice A rs.length cap ∧ rs.length ≤ cap ∧ cap ≤ maxLen := Own.shape h
theorem Recs.len_eq {A : Option Addr} {n cap : Nat} (h : Recs w lo hi (.slice A n cap) rs) : rs.length = n := by
  obtain ⟨_, _, e, _⟩ := h.shape
  injection e with _ e2 _
  exact e2.symm
theorem Recs.bd {A : Option Addr} {n cap : Nat} (h : Recs w lo hi (.slice A n cap) rs) : n ≤ 9223372036854775807 := by
  rw [← h.len_eq]; exact Own.len h
theorem Recs.at_ {A : Option Addr} {n cap k : Nat} (h : Recs w lo hi (.slice A n cap) rs) (hk : k < n) : ∃ g r, A = some ⟨g, 0, none⟩ ∧ lo ≤ g ∧ g < hi ∧ g < w.heap.size ∧ rs[k]? = some r ∧
    w.cell? ⟨g, k * 4, none⟩ = some (.int .i64 r.x) ∧ w.cell? ⟨g, k * 4 + 1, none⟩ = some (.int .i64 r.y) ∧ w.cell? ⟨g, k * 4 + 2, none⟩ = some (.int .i64 r.w) ∧ w.cell? ⟨g, k * 4 + 3, none⟩ = some (.int .i64 r.h) ∧ ∀ j, w.frozen? ⟨g, j, none⟩ = false := by
  have e := h.len_eq
  subst e
  obtain ⟨g, rfl, h1, h2, h3, h4⟩ := Own.at_ h (by omega)
  have hg := rcells_get (List.getElem?_eq_getElem hk)
  exact ⟨g, rs[k], rfl, h1, h2, Nat.lt_of_lt_of_le h2 h.2.2, List.getElem?_eq_getElem hk, (h3 _ (by omega)).trans hg.1, (h3 _ (by omega)).trans hg.2.1, (h3 _ (by omega)).trans hg.2.2.1, (h3 _ (by omega)).trans hg.2.2.2, h4⟩
theorem Recs.stored {g n cap : Nat} (h : Recs w lo hi (.slice (some ⟨g, 0, none⟩) n cap) rs) (k : Nat) (r : Pl.R) (hk : k < n) :
    Recs ((((w.setCell ⟨g, k * 4, none⟩ (.int .i64 r.x)).setCell ⟨g, k * 4 + 1, none⟩ (.int .i64 r.y)).setCell ⟨g, k * 4 + 2, none⟩ (.int .i64 r.w)).setCell ⟨g, k * 4 + 3, none⟩ (.int .i64 r.h)) lo hi (.slice (some ⟨g, 0, none⟩) n cap) (rs.set k r) := by
  have e := h.len_eq
  subst e
  have := (((Own.stored h (k * 4) (.int .i64 r.x)).stored (k * 4 + 1) (.int .i64 r.y)).stored (k * 4 + 2) (.int .i64 r.w)).stored (k * 4 + 3) (.int .i64 r.h)
  rw [rcells_set rs k r hk] at this
  unfold Recs
  rw [List.length_set]
  exact this
theorem Recs.below {B : Nat} (h : Recs w lo hi v rs) (hb : Below B w w') (hB : hi ≤ B) : Recs w' lo hi v rs := Own.below h hb hB
theorem Recs.out {lo' hi' : Nat} (h : Recs w lo hi v rs) (hb : Out lo' hi' w w') (hB : hi ≤ lo' ∨ hi' ≤ lo) : Recs w' lo hi v rs := Own.out h hb hB
theorem Recs.hi_le (h : Recs w lo hi v rs) : hi ≤ w.heap.size := h.2.2
theorem Recs.step (h : Recs w lo hi v rs) (hb : Below w.heap.size w w') : Recs w' lo hi v rs := Own.below h hb h.2.2
theorem Recs.alloc (h : Recs w lo hi v rs) (o : Obj) : Recs (w.alloc o) lo hi v rs := Own.alloc h o
theorem Recs.drew (h : Recs w lo hi v rs) : Recs w.drew lo hi v rs := h
theorem Recs.nil (w : World) (lo hi : Nat) (hh : hi ≤ w.heap.size) : Recs w lo hi (.slice none 0 0) [] := Own.nil _ _ _ _ _ hh
theorem Recs.mono {lo' hi' : Nat} (h : Recs w lo hi v rs) (h1 : lo' ≤ lo) (h2 : hi ≤ hi') (h3 : hi' ≤ w.heap.size) : Recs w lo' hi' v rs := Own.mono h h1 h2 h3
end

/-- What can be read of a slice of rectangles: its elements. -/
def RArg (w : World) (a : Option Addr) (rs : List Pl.R) : Prop :=
  0 < rs.length → ∃ b off, a = some ⟨b, off, none⟩ ∧ b < w.heap.size ∧ ∀ k r, rs[k]? = some r → w.cell? ⟨b, off + k * 4, none⟩ = some (.int .i64 r.x) ∧ w.cell? ⟨b, off + k * 4 + 1, none⟩ = some (.int .i64 r.y) ∧ w.cell? ⟨b, off + k * 4 + 2, none⟩ = some (.int .i64 r.w) ∧ w.cell? ⟨b, off + k * 4 + 3, none⟩ = some (.int .i64 r.h)
theorem RArg.below {w w' : World} {a : Option Addr} {rs : List Pl.R} (h : RArg w a rs) (hb : Below w.heap.size w w') : RArg w' a rs := fun hn => by
  obtain ⟨b, off, e, hlt, hc⟩ := h hn
  refine ⟨b, off, e, Nat.lt_of_lt_of_le hlt hb.size, fun k r hr => ?_⟩
  obtain ⟨h0, h1, h2, h3⟩ := hc k r hr
  exact ⟨(hb.cell (p := ⟨b, _, none⟩) hlt).trans h0, (hb.cell (p := ⟨b, _, none⟩) hlt).trans h1, (hb.cell (p := ⟨b, _, none⟩) hlt).trans h2, (hb.cell (p := ⟨b, _, none⟩) hlt).trans h3⟩
theorem RArg.belowB {w w' : World} {B : Nat} {a : Option Addr} {rs : List Pl.R} (h : RArg w a rs) (hb : Below B w w') (hB : ∀ x, a = some x → x.block < B) : RArg w' a rs := fun hn => by
  obtain ⟨b, off, e, hlt, hc⟩ := h hn
  have hlt' : b < B := hB _ e
  refine ⟨b, off, e, Nat.lt_of_lt_of_le hlt hb.size, fun k r hr => ?_⟩
  obtain ⟨h0, h1, h2, h3⟩ := hc k r hr
  exact ⟨(hb.cell (p := ⟨b, _, none⟩) hlt').trans h0, (hb.cell (p := ⟨b, _, none⟩) hlt').trans h1, (hb.cell (p := ⟨b, _, none⟩) hlt').trans h2, (hb.cell (p := ⟨b, _, none⟩) hlt').trans h3⟩
theorem Recs.arg {w : World} {lo hi n cap : Nat} {A : Option Addr} {rs : List Pl.R} (h : Recs w lo hi (.slice A n cap) rs) : RArg w A rs := fun hn => by
  have e := h.len_eq
  subst e
  obtain ⟨g, hA, _, hg, _⟩ := Own.at_ h hn
  refine ⟨g, 0, hA, Nat.lt_of_lt_of_le hg h.2.2, fun k r hr => ?_⟩
  obtain ⟨g', r', e1, _, _, _, e2, c0, c1, c2, c3, _⟩ := h.at_ (List.getElem?_eq_some_iff.1 hr).1
  rw [hA] at e1
  injection e1 with e1
  injection e1 with e1
  subst e1
  rw [hr] at e2
  injection e2 with e2
  subst e2
  rw [Nat.zero_add]
  exact ⟨c0, c1, c2, c3⟩
/-- A slice of rectangles that came in. -/
def IsRects (w : World) (a : Option Addr) (len cap : Nat) (zs : List Pl.R) : Prop :=
  (a = none ∧ len = 0 ∧ cap = 0 ∧ zs = []) ∨
  ∃ x, a = some x ∧ len ≤ cap ∧ cap ≤ maxLen ∧ zs.length = cap ∧ ∀ k r, zs[k]? = some r → w.cell? (x.add (k * 4)) = some (.int .i64 r.x) ∧ w.cell? (x.add (k * 4 + 1)) = some (.int .i64 r.y) ∧ w.cell? (x.add (k * 4 + 2)) = some (.int .i64 r.w) ∧ w.cell? (x.add (k * 4 + 3)) = some (.int .i64 r.h)
theorem RArg.of_rects {w : World} {a : Option Addr} {len cap : Nat} {zs : List Pl.R} (h : IsRects w a len cap zs) : RArg w a (zs.take len) ∧ (zs.take len).length = len ∧ len ≤ 9223372036854775807 := by
  rcases h with ⟨rfl, rfl, rfl, rfl⟩ | ⟨x, rfl, hl, hm, hz, hcell⟩
  · exact ⟨fun h => by simp at h, rfl, by omega⟩
  · unfold maxLen at hm
    refine ⟨fun hn => ?_, by simp; omega, by omega⟩
    have hn' : 0 < zs.length := by simp at hn; omega
    obtain ⟨b, off, spot⟩ := x
    have hc0 := (hcell 0 _ (List.getElem?_eq_getElem hn')).1
    have hspot : spot = none := by simpa [Addr.add] using World.cell?_spot hc0
    subst hspot
    have hlt := World.block_lt_of_cell? _ _ hc0
    refine ⟨b, off, rfl, by simpa [Addr.add] using hlt, fun k r hr => ?_⟩
    have hr' : zs[k]? = some r := by
      rw [List.getElem?_take] at hr
      split at hr
      · exact hr
      · cases hr
    obtain ⟨h0, h1, h2, h3⟩ := hcell k r hr'
    simp only [Addr.add_mid] at h0 h1 h2 h3
    exact ⟨h0, h1, h2, h3⟩
theorem isRects_cell {H : Type} {enc : TypeId × Value → H} {w : World} {base fuel : Nat} {held : Bool} {v : Value} {x : DataW H × List MemPlace} (h : DataW.trod enc Try.prog w base (fun _ => true) held fuel 37 [v] = some x) :
    ∃ a len cap zs, v = .slice a len cap ∧ IsRects w a len cap zs := by
  have hC : Try.prog.cellsOf 85 = 4 := by kernel_rfl
  rcases open_slice Try.underlying37 h with ⟨hcs, _⟩ | ⟨a, len, cap, m, n, D, P, hcs, _, hl, hm, hmm, _, hi⟩
  · simp at hcs
    exact ⟨none, 0, 0, [], hcs, .inl ⟨rfl, rfl, rfl, rfl⟩⟩
  · simp at hcs hmm
    subst hmm
    have each : ∀ i, i < m → ∃ r : Pl.R, w.cell? (a.add (i * 4)) = some (.int .i64 r.x) ∧ w.cell? (a.add (i * 4 + 1)) = some (.int .i64 r.y) ∧ w.cell? (a.add (i * 4 + 2)) = some (.int .i64 r.w) ∧ w.cell? (a.add (i * 4 + 3)) = some (.int .i64 r.h) := by
      intro i him
      obtain ⟨cs', hc, ht⟩ := hi i him
      rw [hC] at hc
      obtain ⟨_, hcl, hat⟩ := World.cells?_some hc
      match cs', hcl with
      | [c0, c1, c2, c3], _ =>
        obtain ⟨y0, y1, y2, y3, n', _, _, t0, t1, t2, t3⟩ := trod_struct4 Try.underlying85 ht
        have e1 : Try.prog.cellsOf 3 = 1 := by kernel_rfl
        simp only [e1] at t0 t1 t2 t3
        obtain ⟨x0, g0, _, _⟩ := DataW.trod_int Try.underlying3 t0
        obtain ⟨x1, g1, _, _⟩ := DataW.trod_int Try.underlying3 t1
        obtain ⟨x2, g2, _, _⟩ := DataW.trod_int Try.underlying3 t2
        obtain ⟨x3, g3, _, _⟩ := DataW.trod_int Try.underlying3 t3
        obtain rfl : c0 = .int .i64 x0 := by simpa using g0
        obtain rfl : c1 = .int .i64 x1 := by simpa using g1
        obtain rfl : c2 = .int .i64 x2 := by simpa using g2
        obtain rfl : c3 = .int .i64 x3 := by simpa using g3
        have a0 := hat 0 (by omega)
        have a1 := hat 1 (by omega)
        have a2 := hat 2 (by omega)
        have a3 := hat 3 (by omega)
        rw [Deep.add_add] at a0 a1 a2 a3
        exact ⟨⟨x0, x1, x2, x3⟩, a0, a1, a2, a3⟩
    refine ⟨some a, len, m, (List.range m).map (fun i => if h : i < m then Classical.choose (each i h) else ⟨0, 0, 0, 0⟩), hcs, .inr ⟨a, rfl, hl, hm, by simp, fun k r hr => ?_⟩⟩
    have hk : k < m := by have := (List.getElem?_eq_some_iff.1 hr).1; simpa using this
    have := Classical.choose_spec (each k hk)
    simp [hk] at hr
    rw [hr] at this
    exact this
theorem open_agg1 {H : Type} {enc : TypeId × Value → H} {P : Program} {w : World} {base : Nat} {spare : Nat → Bool} {held : Bool} {r : Reach} {b0 : Nat} {t : TypeId} {f0 : Field} {v : Value} {d : DataW H} {p : List MemPlace} (hs : P.underlying t = some (.struct #[f0])) (hone : oneCellFields P #[f0] = true) (hC : P.cellsOf t = 1)
    (hv : Value.okWide P w r b0 t v) (h : DataW.Trod enc P w base spare held t v d p) :
    ∃ (v0 : Value) (y0 : DataW H × List MemPlace) (n : Nat), v = .agg #[v0] ∧ DataW.trod enc P w base spare held n f0.type [v0] = some y0 := by
  obtain ⟨cs, rfl, hsz⟩ := okWide_struct hs hv
  obtain ⟨l⟩ := cs
  match l, hsz.trans hC with
  | [c0], _ =>
    obtain ⟨fuel, hf⟩ := h
    obtain ⟨xs, n, _, hx, _, hlen, hg⟩ := DataW.trod_struct hs hf
    obtain ⟨o0, k0⟩ := hone_of hone 0 f0 rfl
    match xs, hlen with
    | [y0], _ => exact ⟨c0, y0, n, rfl, by simpa [Value.cells, o0, k0] using hg 0 f0 rfl⟩
end Go.Proofs.Ytmjjepgnciibcaa
