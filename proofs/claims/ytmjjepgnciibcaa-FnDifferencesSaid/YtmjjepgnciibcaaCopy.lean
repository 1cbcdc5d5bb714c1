/- Contracts: the copy of an image (both sides), imageRect. -/
import Derived.Test.YtmjjepgnciibcaaIm3
import Derived.Deep.RegionHeld3
import Derived.WalkSpells
namespace Go.Proofs.Ytmjjepgnciibcaa
open Go.RowKit
set_option linter.unusedVariables false
theorem Ints.news {w : World} {lo hi g n c : Nat} {zs : List Int} (h : Ints w lo hi (.slice (some ⟨g, 0, none⟩) n c) zs) : ∀ j u, (zs.map (Value.int .i64))[j]? = some u → w.cell? ((⟨g, 0, none⟩ : Addr).add j) = some u := h.1.cells (g := g) rfl
theorem Ints.head {w : World} {lo hi n c : Nat} {A : Option Addr} {zs : List Int} (h : Ints w lo hi (.slice A n c) zs) : (A = none ∧ n = 0 ∧ c = 0 ∧ zs = []) ∨ ∃ g, A = some ⟨g, 0, none⟩ ∧ g < w.heap.size := by
  have e := h.len_eq
  rcases h.1.2 with ⟨h1, h2⟩ | ⟨g, cap, cur, h1, _, hg, _⟩
  · injection h1 with a1 a2 a3
    exact .inl ⟨a1, a2, a3, List.eq_nil_of_length_eq_zero h2⟩
  · injection h1 with a1 a2 a3
    exact .inr ⟨g, a1, (Array.getElem?_eq_some_iff.1 hg).1⟩
set_option maxHeartbeats 1000000 in
theorem clone_any (A : Option Addr) (n c lo hi : Nat) (zs : List Int) (w : World) (HI : Ints w lo hi (.slice A n c) zs) (hb : n ≤ 1048576) : Calls Try.prog 68 #[.slice A n c] w (NewInts zs w) := by
  obtain ⟨i0, hi0, hz0, hz1, hz2⟩ := info_parts Try.infoInt
  have L := Lib.hid HI.len_eq
  have G := Lib.hid HI
  rcases HI.head with ⟨rfl, rfl, rfl, rfl⟩ | ⟨g, rfl, hg⟩
  · clear HI
    have hn := fun (w : World) (a : Option Addr) (n c : Nat) => Lib.run_eql_slice_nil (P := Try.prog) w 22 3 a n c 0 0 Try.underlying22
    go_enter Try.func68, Try.ntmps68
    go_wp2_with fail
    go_ret
    exact ⟨none, 0, rfl, Own.nil _ _ _ _ _ (Nat.le_refl _), by go_grown⟩
  · clear HI
    have hn := fun (w : World) (a : Option Addr) (n c : Nat) => Lib.run_eql_slice_nil (P := Try.prog) w 22 3 a n c 0 0 Try.underlying22
    have E0 := World.ownsRow_lit (base := w.heap.size) (e := 3) (size := 1) w #[] 0 (Nat.le_refl _) (by decide) rfl
    have HE := Lib.hid E0
    have G1 := Lib.hid (Own.alloc G.out (.cells #[] 3))
    clear E0
    go_enter Try.func68, Try.ntmps68
    go_wp2_with (at_builtin; refine wpList_append_own _ rfl _ _ 22 rfl w.heap.size 3 i0 (.int .i64 0) 1 8 Try.underlying22 hi0 hz0 hz1 hz2 rfl (by decide) _ _ _ rfl HE.out ⟨g, 0, none⟩ n c (zs.map (Value.int .i64)) rfl (by rw [List.length_map, L.out, Nat.mul_one]) (Ints.news (zs := zs) G1.out) (ints_oneCell _ _) (by unfold maxLen; omega) (by omega) (by simp) ?_)
    intro v' w1 hown' hgrow _
    obtain ⟨A', c', rfl, _⟩ := (Own.of_row hown').shape
    have HO := Lib.hid hown'
    have hk := grown_keep HE.out hgrow (by simp)
    have B1 : Below w.heap.size w w1 := (by go_grown : Below w.heap.size w (w.alloc (.cells #[] 3))).trans hk
    clear hown' hgrow hk
    go_wp2_with fail
    go_ret
    have e := L.out
    subst e
    exact ⟨A', c', rfl, Own.of_row HO.out, B1⟩
set_option maxHeartbeats 2000000 in
theorem copyImage_any (W H : Int) (A : Option Addr) (n c lo hi : Nat) (zs : List Int) (w : World) (HI : Ints w lo hi (.slice A n c) zs) (hb : n ≤ 1048576) :
    Calls Try.prog 44 #[.agg #[.int .i64 W, .int .i64 H, .slice A n c]] w (NewImg ⟨W, H, zs⟩ w) := by
  have G := Lib.hid HI
  clear HI
  go_enter Try.func44, Try.ntmps44
  go_wp2_with fail
  have l0 : w.heap.size < ((w.alloc (.cells #[.int .i64 W, .int .i64 H, .slice A n c] 30)).alloc (.cells #[.int .i64 0, .int .i64 0, .slice none 0 0] 30)).heap.size := by simp; omega
  go_region_held3 (fun w' => w'.cell? ⟨w.heap.size, 0, none⟩ = some (.int .i64 W) ∧ w'.cell? ⟨w.heap.size, 1, none⟩ = some (.int .i64 H) ∧ w'.cell? ⟨w.heap.size, 2, none⟩ = some (.slice A n c)) (((try dsimp only); (repeat' apply And.intro) <;> (first | (simp [go_sem]; done) | (rw [k0]; simp [go_sem]; done) | (rw [cell_far (by omega), cell_far (by omega), cell_far (by omega), k0]; simp [go_sem]; done))))
    (first
      | (go_at_call 68; ((with_reducible refine (clone_any A n c lo hi zs _ (G.out.step (by go_grown)) hb).mono ?_)); rintro e w1 ⟨A1, c1, rfl, O1, hb1⟩; have B1 : Below w.heap.size w w1 := later (by go_grown) hb1; have ⟨k0, f0, y0⟩ := keep3 hb1 w.heap.size (by simp; omega); have ⟨k1, f1, y1⟩ := keep3 hb1 (w.heap.size + 1) (by simp); have H1 := Lib.hid O1; clear O1))
  go_wp2_with fail
  refine bodyPost_ret (v := .agg #[.int .i64 W, .int .i64 H, .slice A1 zs.length c1]) (by simp [results, Try.results44, go_sem, k1]) rfl ⟨A1, c1, rfl, ?_, by go_grown⟩
  refine Own.mono (Own.far (Own.far (Own.far H1.out ?_ _) ?_ _) ?_ _) ?_ ?_ ?_
  all_goals (simp; try omega)
attribute [local go_sem ↓] app_fold
set_option maxHeartbeats 2000000 in
theorem l05Copy_any (W H : Int) (g n c lo hi : Nat) (zs : List Int) (w : World) (HI : Ints w lo hi (.slice (some ⟨g, 0, none⟩) n c) zs) (hb : n ≤ 1048576) :
    Calls Try.prog 40 #[.agg #[.int .i64 W, .int .i64 H, .slice (some ⟨g, 0, none⟩) n c]] w (NewImg ⟨W, H, zs⟩ w) := by
  obtain ⟨i0, hi0, hz0, hz1, hz2⟩ := info_parts Try.infoInt
  have L := Lib.hid HI.len_eq
  have G := Lib.hid HI
  clear HI
  go_enter Try.func40, Try.ntmps40
  go_wp2_with fail
  have E0 : (((w.alloc (.cells #[.int .i64 W, .int .i64 H, .slice (some ⟨g, 0, none⟩) n c] 30)).alloc (.cells #[.int .i64 0, .int .i64 0, .slice none 0 0] 30)).alloc (.cells #[] 3)).ownsRow (w.heap.size + 1 + 1) 3 1 (.slice (some ⟨w.heap.size + 1 + 1, 0, none⟩) 0 0) 0 [] := by
    have h := World.ownsRow_lit (base := w.heap.size + 1 + 1) (e := 3) (size := 1) ((w.alloc (.cells #[.int .i64 W, .int .i64 H, .slice (some ⟨g, 0, none⟩) n c] 30)).alloc (.cells #[.int .i64 0, .int .i64 0, .slice none 0 0] 30)) #[] 0 (by simp) (by decide) rfl
    simpa using h
  have G1 : Ints (((w.alloc (.cells #[.int .i64 W, .int .i64 H, .slice (some ⟨g, 0, none⟩) n c] 30)).alloc (.cells #[.int .i64 0, .int .i64 0, .slice none 0 0] 30)).alloc (.cells #[] 3)) lo hi (.slice (some ⟨g, 0, none⟩) n c) zs := Own.alloc (Own.alloc (Own.alloc G.out _) _) _
  obtain ⟨v', w1, hrun, hown', hgrow, _⟩ := run_append_own (P := Try.prog) (((w.alloc (.cells #[.int .i64 W, .int .i64 H, .slice (some ⟨g, 0, none⟩) n c] 30)).alloc (.cells #[.int .i64 0, .int .i64 0, .slice none 0 0] 30)).alloc (.cells #[] 3)).drew (w.heap.size + 1 + 1) 22 22 3 i0 (.int .i64 0) 1 8 Try.underlying22 hi0 hz0 hz1 hz2 rfl (by decide) (.slice (some ⟨w.heap.size + 1 + 1, 0, none⟩) 0 0) 0 [] E0.drew ⟨g, 0, none⟩ n c (zs.map (Value.int .i64)) (by rw [List.length_map, L.out, Nat.mul_one]) (Ints.news (zs := zs) G1) (ints_oneCell _ _) (by unfold maxLen; omega) (by omega) (by simp)
  rw [app_fold] at hrun
  rw [List.nil_append, Nat.zero_add] at hown'
  obtain ⟨A', c', rfl, _⟩ := (Own.of_row hown').shape
  have HO := Lib.hid hown'
  have hk := grown_keep E0.drew hgrow (by simp)
  have ⟨k0, f0⟩ := keepc hk w.heap.size (by omega)
  have ⟨k1, f1⟩ := keepc hk (w.heap.size + 1) (by omega)
  have s1 := hk.size
  have B1 : Below w.heap.size w w1 := (by go_grown : Below w.heap.size w (((w.alloc (.cells #[.int .i64 W, .int .i64 H, .slice (some ⟨g, 0, none⟩) n c] 30)).alloc (.cells #[.int .i64 0, .int .i64 0, .slice none 0 0] 30)).alloc (.cells #[] 3)).drew).trans (hk.mono (by omega))
  (try simp at s1)
  clear hown' hgrow hk E0 G1
  go_region
  go_wp2_with fail
  refine bodyPost_ret (v := .agg #[.int .i64 W, .int .i64 H, .slice A' n c']) (by simp [results, Try.results40, go_sem, k1]) rfl ?_
  have e := L.out
  subst e
  refine ⟨A', c', rfl, ?_, by go_grown⟩
  have h := Own.far (Own.far (Own.far (Own.of_row HO.out) (p := ⟨w.heap.size + 1, 0, none⟩) (.inl (by simp)) (.int .i64 W)) (p := ⟨w.heap.size + 1, 1, none⟩) (.inl (by simp)) (.int .i64 H)) (p := ⟨w.heap.size + 1, 2, none⟩) (.inl (by simp)) (.slice A' zs.length c')
  exact Own.mono h (by omega) (by simp [World.setCell]) (by simp [World.setCell])
theorem imageRect_any (W H : Int) (A : Option Addr) (n c : Nat) (w : World) : Calls Try.prog 55 #[.agg #[.int .i64 W, .int .i64 H, .slice A n c]] w fun e w' => e = .returned (.agg #[.int .i64 0, .int .i64 0, .int .i64 W, .int .i64 H]) ∧ Below w.heap.size w w' := by
  go_enter Try.func55, Try.ntmps55
  go_wp2_with fail
  go_returns
  exact ⟨rfl, by go_grown⟩
end Go.Proofs.Ytmjjepgnciibcaa
