/- Contracts of the laws' helpers over rows of texts: eqStringS, sameTexts, markText, markStringS, heldStringS. -/
import Derived.Test.YtepjjlaipindnaaDoorTxSW
import Derived.Test.YtepjjlaipindnaaDoorTxF
import Derived.Test.YtepjjlaipindnaaDoorTxP0
import Derived.Test.YtepjjlaipindnaaDoorMem
import Derived.Deep.QuietTactic
namespace Go.Proofs.YtepjjlaipindnaaDoor
open Go.RowKit Go.Instr
set_option linter.unusedVariables false
set_option linter.unusedSimpArgs false
theorem Strs.bd {w : World} {lo hi n cap : Nat} {A : Option Addr} {L : List (List UInt8)} (h : Strs w lo hi (.slice A n cap) L) : n ≤ 9223372036854775807 ∧ L.length = n := by
  have h1 := Own.len h
  obtain ⟨_, _, e, _⟩ := h.shape
  injection e with _ e2 _
  exact ⟨by omega, e2.symm⟩
/-- The mark of place k. -/
def mark (k : Nat) : List UInt8 := 109 :: Lib.decDigits k
set_option maxHeartbeats 2000000 in
theorem eqStr_same (A1 A2 : Option Addr) (n m c1 c2 l1 h1 l2 h2 : Nat) (L : List (List UInt8)) (w : World) (H1 : Strs w l1 h1 (.slice A1 n c1) L) (H2 : Strs w l2 h2 (.slice A2 m c2) L) :
    Calls Tryd.prog 19 #[.slice A1 n c1, .slice A2 m c2] w fun e w' => e = .returned (.bool true) ∧ Below w.heap.size w w' := by
  have b1 := H1.bd
  have b2 := H2.bd
  obtain rfl : n = m := b1.2.symm.trans b2.2
  have L1 := Lib.hid b1.2
  have bn := b1.1
  have G1 := Lib.hid H1
  have G2 := Lib.hid H2
  clear H1 H2 b1 b2
  go_enter Tryd.func19, Tryd.ntmps19
  go_wp2_with fail
  go_loopw [5] (fun i wr => ∃ k j : Nat, k ≤ n ∧ i = .int .i64 k ∧ wr = w.drewN j) (fun i _ => n - (intOf i).toNat)
  case atStart => exact ⟨0, 0, Nat.zero_le _, rfl, rfl⟩
  case round =>
    obtain ⟨k, j, hk, rfl, rfl⟩ := hrel
    by_cases hlt : k < n
    · obtain ⟨g1, p, rfl, _, _, e1, cc1, _, lt1⟩ := G1.out.at_ L1.out hlt
      obtain ⟨g2, q, rfl, _, _, e2, cc2, _, lt2⟩ := G2.out.at_ L1.out hlt
      obtain rfl : p = q := by rw [e1] at e2; injection e2
      clear e1 e2
      go_wp2_with fail
      go_quiet (fail)
      go_wp2_with fail
      go_roundw
      case rel => exact ⟨k + 1, _, by omega, by go_num, rfl⟩
      case measure => simp [intOf]; omega
    · go_wp2_with fail
      go_ret
      exact ⟨rfl, by go_grown; all_goals (first | exact below_refl_drewN _ _ _ | exact below_drewN (below_refl_drewN _ _ _) _)⟩
set_option maxHeartbeats 2000000 in
theorem sameTexts_same (A1 A2 : Option Addr) (n m c1 c2 l1 h1 l2 h2 : Nat) (L : List (List UInt8)) (w : World) (H1 : Strs w l1 h1 (.slice A1 n c1) L) (H2 : Strs w l2 h2 (.slice A2 m c2) L) :
    Calls Tryd.prog 14 #[.slice A1 n c1, .slice A2 m c2] w fun e w' => e = .returned (.bool true) ∧ Below w.heap.size w w' := by
  have b1 := H1.bd
  have b2 := H2.bd
  obtain rfl : n = m := b1.2.symm.trans b2.2
  have L1 := Lib.hid b1.2
  have bn := b1.1
  have G1 := Lib.hid H1
  have G2 := Lib.hid H2
  clear H1 H2 b1 b2
  go_enter Tryd.func14, Tryd.ntmps14
  go_wp2_with fail
  go_loopw [5] (fun i wr => ∃ k j : Nat, k ≤ n ∧ i = .int .i64 k ∧ wr = w.drewN j) (fun i _ => n - (intOf i).toNat)
  case atStart => exact ⟨0, 0, Nat.zero_le _, rfl, rfl⟩
  case round =>
    obtain ⟨k, j, hk, rfl, rfl⟩ := hrel
    by_cases hlt : k < n
    · obtain ⟨g1, p, rfl, _, _, e1, cc1, _, lt1⟩ := G1.out.at_ L1.out hlt
      obtain ⟨g2, q, rfl, _, _, e2, cc2, _, lt2⟩ := G2.out.at_ L1.out hlt
      obtain rfl : p = q := by rw [e1] at e2; injection e2
      clear e1 e2
      go_wp2_with fail
      go_quiet (fail)
      go_wp2_with fail
      go_roundw
      case rel => exact ⟨k + 1, _, by omega, by go_num, rfl⟩
      case measure => simp [intOf]; omega
    · go_wp2_with fail
      go_ret
      exact ⟨rfl, by go_grown; all_goals (first | exact below_refl_drewN _ _ _ | exact below_drewN (below_refl_drewN _ _ _) _)⟩
set_option maxRecDepth 100000 in
set_option maxHeartbeats 4000000 in
theorem markText_any (u : Nat) (h0 : 1 ≤ u) (h1 : u ≤ 1000000) (w : World) : Calls Tryd.prog 35 #[.int .i64 u] w fun e w' => e = .returned (.string ⟨(mark u).toArray⟩) ∧ Below w.heap.size w w' := by
  have hlen := digits_len (u : Int) (by omega) (by omega)
  rw [show ((u : Nat) : Int).natAbs = u by omega] at hlen
  have HLEN := Lib.hid hlen
  clear hlen
  have hu0 : ¬ (u : Int) ≤ 0 := by omega
  go_enter Tryd.func35, Tryd.ntmps35
  go_wp2_with fail
  go_loopw [0, 3] (fun zv sv wr => ∃ (m : Nat) (s : ByteArray) (l : List UInt8), zv = .int .i64 m ∧ sv = .string s ∧ m ≤ 1000000 ∧ Hid (s.data.toList = l) ∧ Hid (Left u m l) ∧ Hid (Below w.heap.size w wr)) (fun zv _ _ => (intOf zv).natAbs)
  case atStart => exact ⟨u, _, [], rfl, rfl, h1, Lib.hid rfl, Lib.hid (.inr ⟨by omega, by simp⟩), Lib.hid (Below.refl _ _)⟩
  case round =>
    obtain ⟨m, s, l, rfl, rfl, hm, HS, HL, HB⟩ := hrel
    have hsz : s.size ≤ 21 := by rw [← size_list, HS.out]; exact Nat.le_trans HL.out.len HLEN.out
    by_cases hz : m = 0
    case pos =>
      subst hz
      have hl : l = Lib.decDigits u := by rcases HL.out with ⟨_, h⟩ | ⟨h, _⟩; exact h; omega
      have hadd := fun w => run_string_add_sum (P := Tryd.prog) w ⟨#[109]⟩ s (by show 1 + s.size ≤ _; omega)
      obtain ⟨t, ht⟩ : ∃ t, (⟨#[109]⟩ : ByteArray) ++ s = t := ⟨_, rfl⟩
      simp only [ht] at hadd
      have htl : t = ⟨(mark u).toArray⟩ := text_eq (by rw [← ht, text_add, HS.out, hl]; rfl)
      have HTL := Lib.hid htl
      clear htl ht hl
      go_wp2_with fail
      go_ret
      exact ⟨by rw [← HTL.out]; rfl, HB.out⟩
    have hm0 : 0 < m := by omega
    have hmi : (0 : Int) < m := by omega
    have hstep := HL.out.step hm0
    have HST := Lib.hid hstep
    clear hstep
    obtain ⟨e, he⟩ : ∃ e, m % 10 = e := ⟨_, rfl⟩
    obtain ⟨q, hq⟩ : ∃ q, m / 10 = q := ⟨_, rfl⟩
    rw [he, hq] at HST
    have he9 : e < 10 := by omega
    have hqm : q < m := by omega
    have d1 : (m : Int).tmod 10 = (e : Int) := by rw [Int.tmod_eq_emod_of_nonneg (by omega)]; omega
    have d2 : (m : Int).tdiv 10 = (q : Int) := by rw [Int.tdiv_eq_ediv_of_nonneg (by omega)]; omega
    have d3 : (m : Int) % 10 = (e : Int) := by omega
    have d4 : (m : Int) / 10 = (q : Int) := by omega
    have w1 : IntKind.i64.wrap (e : Int) = (e : Int) := IntWalk.i64_in _ ⟨by omega, by omega⟩
    have w2 : IntKind.i64.wrap (q : Int) = (q : Int) := IntWalk.i64_in _ ⟨by omega, by omega⟩
    have w3 : IntKind.i64.wrap (48 + (e : Int)) = 48 + (e : Int) := IntWalk.i64_in _ ⟨by omega, by omega⟩
    obtain ⟨f, hf⟩ : ∃ f, (Pl.fig e).toNat = f := ⟨_, rfl⟩
    have hfe : 48 + (e : Int) = (f : Int) := by rw [← hf, Pl.fig_dec he9]; omega
    have w4 : IntKind.u8.wrap (48 + (e : Int)) = (f : Int) := by rw [← hfe]; exact IntWalk.u8_in _ ⟨by omega, by omega⟩
    clear he hq hfe
    have hadd := fun w => run_string_add_sum (P := Tryd.prog) w ⟨#[Pl.fig e]⟩ s (by show 1 + s.size ≤ _; omega)
    obtain ⟨t, ht⟩ : ∃ t, (⟨#[Pl.fig e]⟩ : ByteArray) ++ s = t := ⟨_, rfl⟩
    simp only [ht] at hadd
    have htl : t.data.toList = Pl.fig e :: l := by rw [← ht, text_add, HS.out]
    have HTL := Lib.hid htl
    clear htl ht
    have hc := text_of_row (w := wr.alloc (.cells #[.int .u8 ((Pl.fig e).toNat : Int)] 5 (0, 0))) (lo := wr.heap.size) (g := wr.heap.size) (m := 1) (cap := 1) (l := [Pl.fig e]) (World.ownsRow_lit (base := wr.heap.size) (e := 5) (size := 1) wr #[.int .u8 ((Pl.fig e).toNat : Int)] 1 (Nat.le_refl _) (by unfold maxLen; omega) rfl) rfl
    rw [hf] at hc
    have B1 := Lib.hid (HB.out.alloc HB.out.size (.cells #[.int .u8 (f : Int)] 5 (0, 0)))
    clear hf
    go_wp2_with fail
    go_roundw
    case rel => exact ⟨q, t, _, rfl, rfl, by omega, HTL, HST, B1⟩
    case measure => simp [intOf]; omega
theorem markTextI (z : Int) (u : Nat) (hz : z = (u : Int)) (h0 : 1 ≤ u) (h1 : u ≤ 1000000) (w : World) : Calls Tryd.prog 35 #[.int .i64 z] w fun e w' => e = .returned (.string ⟨(mark u).toArray⟩) ∧ Below w.heap.size w w' := by
  subst hz
  exact markText_any u h0 h1 w
/-- The first k texts are the marks. -/
def Marked (M : List (List UInt8)) (k : Nat) : Prop := ∀ j, j < k → M[j]? = some (mark (j + 1))
theorem Marked.step {M : List (List UInt8)} {k : Nat} (h : Marked M k) (hk : k < M.length) : Marked (M.set k (mark (k + 1))) (k + 1) := by
  intro j hj
  rw [List.getElem?_set]
  by_cases e : k = j
  · subst e; rw [if_pos rfl, if_pos hk]
  · rw [if_neg e]; exact h j (by omega)
set_option maxHeartbeats 4000000 in
theorem markRow_any (A : Option Addr) (n c lo hi : Nat) (L : List (List UInt8)) (w : World) (H : Strs w lo hi (.slice A n c) L) (hn : n ≤ 1000) :
    Calls Tryd.prog 20 #[.slice A n c, .int .i64 1] w fun e w' => e = .returned (.int .i64 (n + 1 : Nat)) ∧ Out lo hi w w' ∧ ∃ M, Strs w' lo hi (.slice A n c) M ∧ Marked M n := by
  have b1 := H.bd
  have G1 := Lib.hid H
  have L1 := Lib.hid b1.2
  clear H b1
  go_enter Tryd.func20, Tryd.ntmps20
  go_wp2_with fail
  go_loopw [5, 1] (fun i kv wr => ∃ (k : Nat) (M : List (List UInt8)), k ≤ n ∧ i = .int .i64 k ∧ kv = .int .i64 (k + 1 : Nat) ∧ Hid (M.length = n) ∧ Hid (Strs wr lo hi (.slice A n c) M) ∧ Hid (Marked M k) ∧ Hid (Out lo hi w wr)) (fun i _ _ => n - (intOf i).toNat)
  case atStart => exact ⟨0, L, Nat.zero_le _, rfl, rfl, L1, G1, Lib.hid (fun j hj => by omega), Lib.hid (Out.refl _ _ _)⟩
  case round =>
    obtain ⟨k, M, hk, rfl, rfl, HM, HS, HK, HO⟩ := hrel
    have kp0 : (0 : Int) ≤ (k : Int) := Int.natCast_nonneg _
    by_cases hlt : k < n
    · have kp1 : (k : Int) < n := by omega
      obtain ⟨g, p, rfl, hg1, hg2, e1, cc1, ff1, lt1⟩ := HS.out.at_ HM.out hlt
      clear e1
      go_wp2_with (go_at_call 35; ((with_reducible refine (markTextI _ (k + 1) (by first | rfl | omega) (by omega) (by omega) _).mono ?_)); rintro e9 w9 ⟨rfl, hb9⟩; have B9 := Lib.hid hb9; clear hb9; have t9 : w9.cell? ⟨g, k, none⟩ = some (.string ⟨p.toArray⟩) := (B9.out.cell (p := ⟨g, k, none⟩) lt1).trans cc1; have f9 : w9.frozen? ⟨g, k, none⟩ = false := (B9.out.frozen (p := ⟨g, k, none⟩) lt1).trans ff1; have l9 := Nat.lt_of_lt_of_le lt1 B9.out.size; clear cc1 ff1)
      have S9 := Lib.hid ((HS.out.below B9.out HS.out.hi_le).stored HM.out k (mark (k + 1)))
      have O9 := Lib.hid ((HO.out.trans (Out.of_below B9.out lo hi)).setCell (p := ⟨g, k, none⟩) hg1 hg2 (.string ⟨(mark (k + 1)).toArray⟩))
      go_roundw
      case rel => exact ⟨k + 1, _, by omega, by go_num, by go_num, Lib.hid (by rw [List.length_set]; exact HM.out), S9, Lib.hid (HK.out.step (by rw [HM.out]; exact hlt)), O9⟩
      case measure => simp [intOf]; omega
    · obtain rfl : k = n := by omega
      go_wp2_with fail
      go_ret
      exact ⟨rfl, HO.out, M, HS.out, HK.out⟩
set_option maxHeartbeats 4000000 in
theorem heldRow_any (A : Option Addr) (n c lo hi : Nat) (M : List (List UInt8)) (w : World) (H : Strs w lo hi (.slice A n c) M) (hn : n ≤ 1000) (HK : Marked M n) :
    Calls Tryd.prog 21 #[.slice A n c, .int .i64 1] w fun e w' => e = .returned (.int .i64 (n + 1 : Nat)) ∧ Below w.heap.size w w' := by
  have b1 := H.bd
  have G1 := Lib.hid H
  have L1 := Lib.hid b1.2
  have K1 := Lib.hid HK
  clear H b1 HK
  go_enter Tryd.func21, Tryd.ntmps21
  go_wp2_with fail
  go_loopw [5, 1] (fun i kv wr => ∃ (k : Nat), k ≤ n ∧ i = .int .i64 k ∧ kv = .int .i64 (k + 1 : Nat) ∧ Hid (Below w.heap.size w wr)) (fun i _ _ => n - (intOf i).toNat)
  case atStart => exact ⟨0, Nat.zero_le _, rfl, rfl, Lib.hid (Below.refl _ _)⟩
  case round =>
    obtain ⟨k, hk, rfl, rfl, HB⟩ := hrel
    have kp0 : (0 : Int) ≤ (k : Int) := Int.natCast_nonneg _
    by_cases hlt : k < n
    · have kp1 : (k : Int) < n := by omega
      obtain ⟨g, p, rfl, hg1, hg2, e1, cc1, ff1, lt1⟩ := (G1.out.below HB.out G1.out.hi_le).at_ L1.out hlt
      obtain rfl : p = mark (k + 1) := by have := K1.out k hlt; rw [this] at e1; injection e1 with e1; exact e1.symm
      clear e1 ff1
      go_wp2_with fail
      refine regionL (S := (fun w' => w'.cell? ⟨g, k, none⟩ = some (.string ⟨(mark (k + 1)).toArray⟩))) (L := 7) (by kernel_rfl) ?_ (fun hHeld => ?_)
      · first | assumption | (simp only [World.cell?_drew]; assumption)
      refine takeL (i := 0) (oi := ?_) (v := ?_) ?_ (by kernel_rfl) (by kernel_rfl) (by kernel_rfl) (by kernel_rfl) ?_ (Or.inl ⟨?_, ?_⟩) (by assumption) ?_
      rotate_left 2
      · (simp only [List.getElem?_toArray, List.getElem?_cons_succ, List.getElem?_cons_zero]; rfl)
      · exact fun _ _ _ h => h
      · rfl
      · (intro w hSw; (try dsimp only at hSw); go_simp; (try with_reducible rfl))
      try simp only [Act.put, List.setIfInBounds_toArray, List.set_cons_zero, List.set_cons_succ]
      refine takeL (i := 1) (oi := ?_) (v := ?_) ?_ (by kernel_rfl) (by kernel_rfl) (by kernel_rfl) (by kernel_rfl) ?_ (Or.inl ⟨?_, ?_⟩) (by assumption) ?_
      rotate_left 2
      · (simp only [List.getElem?_toArray, List.getElem?_cons_succ, List.getElem?_cons_zero]; rfl)
      · exact fun _ _ _ h => h
      · rfl
      · (intro w hSw; (try dsimp only at hSw); go_simp; (try with_reducible rfl))
      try simp only [Act.put, List.setIfInBounds_toArray, List.set_cons_zero, List.set_cons_succ]
      refine takeL (i := 2) (oi := ?_) (v := ?_) ?_ (by kernel_rfl) (by kernel_rfl) (by kernel_rfl) (by kernel_rfl) ?_ (Or.inl ⟨?_, ?_⟩) (by assumption) ?_
      rotate_left 2
      · (simp only [List.getElem?_toArray, List.getElem?_cons_succ, List.getElem?_cons_zero]; rfl)
      · exact fun _ _ _ h => h
      · rfl
      · (intro w hSw; (try dsimp only at hSw); go_simp; (try with_reducible rfl))
      try simp only [Act.put, List.setIfInBounds_toArray, List.set_cons_zero, List.set_cons_succ]
      refine takeL (i := 3) (oi := ?_) (v := ?_) ?_ (by kernel_rfl) (by kernel_rfl) (by kernel_rfl) (by kernel_rfl) ?_ (Or.inl ⟨?_, ?_⟩) (by assumption) ?_
      rotate_left 2
      · (simp only [List.getElem?_toArray, List.getElem?_cons_succ, List.getElem?_cons_zero]; rfl)
      · exact fun _ _ _ h => h
      · rfl
      · (intro w hSw; (try dsimp only at hSw); go_simp; (try with_reducible rfl))
      try simp only [Act.put, List.setIfInBounds_toArray, List.set_cons_zero, List.set_cons_succ]
      refine takeL (i := 4) (oi := ?_) (v := ?_) ?_ (by kernel_rfl) (by kernel_rfl) (by kernel_rfl) (by kernel_rfl) ?_ (Or.inl ⟨?_, ?_⟩) (by assumption) ?_
      rotate_left 2
      · (simp only [List.getElem?_toArray, List.getElem?_cons_succ, List.getElem?_cons_zero]; rfl)
      · exact fun _ _ _ h => h
      · rfl
      · (intro w hSw; (try dsimp only at hSw); go_simp; (try with_reducible rfl))
      try simp only [Act.put, List.setIfInBounds_toArray, List.set_cons_zero, List.set_cons_succ]
      refine readyL (rs := [5]) (by kernel_rfl) (by simp) ?_
      refine AllReadyL.cons (o := ?_) ?_ (fun K hK => ?_) AllReadyL.none_
      rotate_left
      · (simp only [List.getElem?_toArray, List.getElem?_cons_succ, List.getElem?_cons_zero]; rfl)
      go_simp
      go_at_call 35
      ((with_reducible refine (markTextI _ (k + 1) (by first | rfl | omega) (by omega) (by omega) _).mono ?_))
      rintro e9 w9 ⟨rfl, hb9⟩
      have c9 : w9.cell? ⟨g, k, none⟩ = some (.string ⟨(mark (k + 1)).toArray⟩) := (hb9.cell (p := ⟨g, k, none⟩) lt1).trans hHeld
      have B9 := Lib.hid hb9
      clear hb9
      refine hK.out _ _ ?_ (fun hHeld => ?_)
      · first | assumption | (simp only [World.cell?_drew]; assumption)
      clear hK K
      try simp only [Act.put, List.setIfInBounds_toArray, List.set_cons_zero, List.set_cons_succ]
      refine takeL (i := 6) (oi := ?_) (v := ?_) ?_ (by kernel_rfl) (by kernel_rfl) (by kernel_rfl) (by kernel_rfl) ?_ (Or.inl ⟨?_, ?_⟩) (by assumption) ?_
      rotate_left 2
      · (simp only [List.getElem?_toArray, List.getElem?_cons_succ, List.getElem?_cons_zero]; rfl)
      · exact fun _ _ _ h => h
      · rfl
      · (intro w hSw; (try dsimp only at hSw); go_simp; (try with_reducible rfl))
      try simp only [Act.put, List.setIfInBounds_toArray, List.set_cons_zero, List.set_cons_succ]
      refine doneL (by kernel_rfl) ?_ _
      go_wp2_with fail
      go_roundw
      case rel => exact ⟨k + 1, by omega, by go_num, by go_num, Lib.hid (later (Below.drew HB.out) B9.out)⟩
      case measure => simp [intOf]; omega
    · obtain rfl : k = n := by omega
      go_wp2_with fail
      go_ret
      exact ⟨rfl, HB.out⟩
end Go.Proofs.YtepjjlaipindnaaDoor
