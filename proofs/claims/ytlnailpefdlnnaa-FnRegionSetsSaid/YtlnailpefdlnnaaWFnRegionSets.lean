/- The law FnRegionSets: it returns true. -/
import Derived.Test.YtlnailpefdlnnaaRegLaw
import Derived.Test.YtlnailpefdlnnaaDrR3
import Derived.Test.YtlnailpefdlnnaaAt
import Derived.BigQuiet
import Derived.Deep.Cut
import Derived.Deep.DeepCutAuto
import Derived.Test.YtlnailpefdlnnaaOrd
namespace Go.Proofs.Ytlnailpefdlnnaa
open Go.RowKit
set_option linter.unusedVariables false
set_option linter.unusedSimpArgs false
theorem isRow_below {w w' : World} {a : Option Addr} {len cap : Nat} {zs : List Int} (h : IsRow .u8 w a len cap zs) (hb : Below w.heap.size w w') : IsRow .u8 w' a len cap zs := isRow_keep h fun x hx hc => hb.block _ (isRow_lt h x hx hc)
theorem isRow_len2 {w : World} {a : Option Addr} {len cap : Nat} {zs : List Int} (hr : IsRow .u8 w a len cap zs) : len ≤ 9223372036854775807 := by
  rcases hr with ⟨_, rfl, _⟩ | ⟨x, _, h1, h2, _⟩
  · omega
  · unfold maxLen at h2; omega
set_option maxRecDepth 100000 in
set_option maxHeartbeats 8000000 in
theorem walkFnRegionSets (a : Option Addr) (len cap : Nat) (z : List Int) (w : World) (hr : IsRow .u8 w a len cap z) : Calls Try.prog 11 #[.slice a len cap] w fun e w' => e = .returned (.bool true) ∧ Below w.heap.size w w' := by
  have hl := isRow_len2 hr
  by_cases hbig : 1048576 < len
  · go_enter Try.func11, Try.ntmps11
    go_wp2_with fail
    refine (big_any _ _ _ _ hl).mono ?_
    rintro e w' ⟨rfl, rfl⟩
    go_wp2_with fail
    go_ret
    exact ⟨rfl, Below.refl _ _⟩
  have HR := Lib.hid hr
  clear hr
  have bbw : Hid (Below w.heap.size w w) := Lib.hid (Below.refl _ _)
  go_enter Try.func11, Try.ntmps11
  go_wp2_with fail
  refine (big_any _ _ _ _ hl).mono ?_
  rintro e w' ⟨rfl, rfl⟩
  go_wp2_with fail
  refine (drawRegions a len cap z _ HR.out (by omega)).mono ?_
  rintro e w1 ⟨L, M, Aa, Ab, ca, cb, rfl, ra, rb, hbw1⟩
  have Raw1 := Lib.hid ra
  have Rbw1 := Lib.hid rb
  clear ra rb
  have oka := Pl.regionOf_ok L
  have okb := Pl.regionOf_ok M
  have ha256 := Pl.regionOf_length L
  have hb256 := Pl.regionOf_length M
  generalize Pl.regionOf L = za at *
  generalize Pl.regionOf M = zb at *
  generalize hna : za.length = na at *
  generalize hnb : zb.length = nb at *
  have La := Lib.hid hna
  have Lb := Lib.hid hnb
  clear hna hnb
  have bbw1 := Lib.hid (later bbw.out hbw1)
  go_wp2_with fail
  have Vaw2 := Lib.hid ((VB.new (w := w1) (b := w1.heap.size) (t := 29) (cs := [.slice Aa na ca]) (by simp)).alloc (.cells #[.slice Ab nb cb] 29 (0, 0)))
  have Vbw2 := Lib.hid (VB.new (w := (w1.alloc (.cells #[.slice Aa na ca] 29 (0, 0)))) (b := w1.heap.size + 1) (t := 29) (cs := [.slice Ab nb cb]) (by simp))
  have hbw2 : Below w1.heap.size w1 ((w1.alloc (.cells #[.slice Aa na ca] 29 (0, 0))).alloc (.cells #[.slice Ab nb cb] 29 (0, 0))) := by go_grown
  have bbw2 : Hid (Below w.heap.size w ((w1.alloc (.cells #[.slice Aa na ca] 29 (0, 0))).alloc (.cells #[.slice Ab nb cb] 29 (0, 0)))) := Lib.hid (later bbw1.out hbw2)
  have hzw2 : w1.heap.size + 2 ≤ ((w1.alloc (.cells #[.slice Aa na ca] 29 (0, 0))).alloc (.cells #[.slice Ab nb cb] 29 (0, 0))).heap.size := by simp
  have Raw2 : Hid _ := Lib.hid (Raw1.out.below hbw2)
  have Rbw2 : Hid _ := Lib.hid (Rbw1.out.below hbw2)
  generalize ((w1.alloc (.cells #[.slice Aa na ca] 29 (0, 0))).alloc (.cells #[.slice Ab nb cb] 29 (0, 0))) = w2 at *
  obtain ⟨law2, caw2_0, faw2_0⟩ := Vaw2.out.open1
  obtain ⟨lbw2, cbw2_0, fbw2_0⟩ := Vbw2.out.open1
  go_upto_region 4 with fail
  go_cut [38] (fun s38 wx => s38 = .bool false ∧ Hid (Below w2.heap.size w2 wx))
  case first =>
    by_cases h0 : na = 0
    · subst h0
      clear law2 caw2_0 faw2_0 lbw2 cbw2_0 fbw2_0
      have bbw3 : Hid (Below w.heap.size w w2.drew) := Lib.hid (Below.drew bbw2.out)
      have hzw3 : w2.heap.size ≤ w2.drew.heap.size := Nat.le_refl _
      have Vaw3 := Lib.hid (VB.drew Vaw2.out)
      have Vbw3 := Lib.hid (VB.drew Vbw2.out)
      have Raw3 : Hid _ := Lib.hid (show RArg w2.drew _ _ from Raw2.out)
      have Rbw3 : Hid _ := Lib.hid (show RArg w2.drew _ _ from Rbw2.out)
      refine regionL (S := (fun w' => VB w' (w1.heap.size) [.slice Aa 0 ca])) (L := 19) (by kernel_rfl) ?_ (fun hHeld => ?_)
      · (first | exact VB.step hHeld B9 | exact VB.alloc hHeld _ | exact VB.drew (VB.alloc (show VB w2 _ _ from hHeld) _) | exact VB.drew Vaw2.out)
      refine takeL (i := 0) (oi := ?_) (v := ?_) ?_ (by kernel_rfl) (by kernel_rfl) (by kernel_rfl) (by kernel_rfl) ?_ (Or.inl ⟨?_, ?_⟩) (by assumption) ?_
      rotate_left 2
      · (simp only [List.getElem?_toArray, List.getElem?_cons_succ, List.getElem?_cons_zero]; rfl)
      · exact fun _ _ _ h => h
      · rfl
      · (intro w hSw; (try dsimp only at hSw); have S0 := hSw; obtain ⟨l0S, c0S0, _⟩ := S0.open1; clear S0; go_simp; (try with_reducible rfl))
      try simp only [Act.put, List.setIfInBounds_toArray, List.set_cons_zero, List.set_cons_succ]
      refine takeL (i := 1) (oi := ?_) (v := ?_) ?_ (by kernel_rfl) (by kernel_rfl) (by kernel_rfl) (by kernel_rfl) ?_ (Or.inl ⟨?_, ?_⟩) (by assumption) ?_
      rotate_left 2
      · (simp only [List.getElem?_toArray, List.getElem?_cons_succ, List.getElem?_cons_zero]; rfl)
      · exact fun _ _ _ h => h
      · rfl
      · (intro w hSw; (try dsimp only at hSw); have S0 := hSw; obtain ⟨l0S, c0S0, _⟩ := S0.open1; clear S0; go_simp; (try with_reducible rfl))
      try simp only [Act.put, List.setIfInBounds_toArray, List.set_cons_zero, List.set_cons_succ]
      refine takeL (i := 2) (oi := ?_) (v := ?_) ?_ (by kernel_rfl) (by kernel_rfl) (by kernel_rfl) (by kernel_rfl) ?_ (Or.inl ⟨?_, ?_⟩) (by assumption) ?_
      rotate_left 2
      · (simp only [List.getElem?_toArray, List.getElem?_cons_succ, List.getElem?_cons_zero]; rfl)
      · exact fun _ _ _ h => h
      · rfl
      · (intro w hSw; (try dsimp only at hSw); have S0 := hSw; obtain ⟨l0S, c0S0, _⟩ := S0.open1; clear S0; go_simp; (try with_reducible rfl))
      try simp only [Act.put, List.setIfInBounds_toArray, List.set_cons_zero, List.set_cons_succ]
      refine takeL (i := 3) (oi := ?_) (v := ?_) ?_ (by kernel_rfl) (by kernel_rfl) (by kernel_rfl) (by kernel_rfl) ?_ (Or.inl ⟨?_, ?_⟩) (by assumption) ?_
      rotate_left 2
      · (simp only [List.getElem?_toArray, List.getElem?_cons_succ, List.getElem?_cons_zero]; rfl)
      · exact fun _ _ _ h => h
      · rfl
      · (intro w hSw; (try dsimp only at hSw); have S0 := hSw; obtain ⟨l0S, c0S0, _⟩ := S0.open1; clear S0; go_simp; (try with_reducible rfl))
      try simp only [Act.put, List.setIfInBounds_toArray, List.set_cons_zero, List.set_cons_succ]
      refine takeL (i := 4) (oi := ?_) (v := ?_) ?_ (by kernel_rfl) (by kernel_rfl) (by kernel_rfl) (by kernel_rfl) ?_ (Or.inl ⟨?_, ?_⟩) (by assumption) ?_
      rotate_left 2
      · (simp only [List.getElem?_toArray, List.getElem?_cons_succ, List.getElem?_cons_zero]; rfl)
      · exact fun _ _ _ h => h
      · rfl
      · (intro w hSw; (try dsimp only at hSw); have S0 := hSw; obtain ⟨l0S, c0S0, _⟩ := S0.open1; clear S0; go_simp; (try with_reducible rfl))
      try simp only [Act.put, List.setIfInBounds_toArray, List.set_cons_zero, List.set_cons_succ]
      refine takeL (i := 5) (oi := ?_) (v := undef) ?_ (by kernel_rfl) (by kernel_rfl) (by kernel_rfl) (by kernel_rfl) ?_ ?_ (by assumption) ?_
      rotate_left
      · (simp only [List.getElem?_toArray, List.getElem?_cons_succ, List.getElem?_cons_zero]; rfl)
      · exact fun _ _ _ h => h
      · exact Or.inr ⟨by rfl, rfl⟩
      try simp only [Act.put, List.setIfInBounds_toArray, List.set_cons_zero, List.set_cons_succ]
      refine takeL (i := 6) (oi := ?_) (v := undef) ?_ (by kernel_rfl) (by kernel_rfl) (by kernel_rfl) (by kernel_rfl) ?_ ?_ (by assumption) ?_
      rotate_left
      · (simp only [List.getElem?_toArray, List.getElem?_cons_succ, List.getElem?_cons_zero]; rfl)
      · exact fun _ _ _ h => h
      · exact Or.inr ⟨by rfl, rfl⟩
      try simp only [Act.put, List.setIfInBounds_toArray, List.set_cons_zero, List.set_cons_succ]
      refine takeL (i := 7) (oi := ?_) (v := undef) ?_ (by kernel_rfl) (by kernel_rfl) (by kernel_rfl) (by kernel_rfl) ?_ ?_ (by assumption) ?_
      rotate_left
      · (simp only [List.getElem?_toArray, List.getElem?_cons_succ, List.getElem?_cons_zero]; rfl)
      · exact fun _ _ _ h => h
      · exact Or.inr ⟨by rfl, rfl⟩
      try simp only [Act.put, List.setIfInBounds_toArray, List.set_cons_zero, List.set_cons_succ]
      refine takeL (i := 8) (oi := ?_) (v := undef) ?_ (by kernel_rfl) (by kernel_rfl) (by kernel_rfl) (by kernel_rfl) ?_ ?_ (by assumption) ?_
      rotate_left
      · (simp only [List.getElem?_toArray, List.getElem?_cons_succ, List.getElem?_cons_zero]; rfl)
      · exact fun _ _ _ h => h
      · exact Or.inr ⟨by rfl, rfl⟩
      try simp only [Act.put, List.setIfInBounds_toArray, List.set_cons_zero, List.set_cons_succ]
      refine takeL (i := 9) (oi := ?_) (v := undef) ?_ (by kernel_rfl) (by kernel_rfl) (by kernel_rfl) (by kernel_rfl) ?_ ?_ (by assumption) ?_
      rotate_left
      · (simp only [List.getElem?_toArray, List.getElem?_cons_succ, List.getElem?_cons_zero]; rfl)
      · exact fun _ _ _ h => h
      · exact Or.inr ⟨by rfl, rfl⟩
      try simp only [Act.put, List.setIfInBounds_toArray, List.set_cons_zero, List.set_cons_succ]
      refine takeL (i := 10) (oi := ?_) (v := undef) ?_ (by kernel_rfl) (by kernel_rfl) (by kernel_rfl) (by kernel_rfl) ?_ ?_ (by assumption) ?_
      rotate_left
      · (simp only [List.getElem?_toArray, List.getElem?_cons_succ, List.getElem?_cons_zero]; rfl)
      · exact fun _ _ _ h => h
      · exact Or.inr ⟨by rfl, rfl⟩
      try simp only [Act.put, List.setIfInBounds_toArray, List.set_cons_zero, List.set_cons_succ]
      refine takeL (i := 11) (oi := ?_) (v := undef) ?_ (by kernel_rfl) (by kernel_rfl) (by kernel_rfl) (by kernel_rfl) ?_ ?_ (by assumption) ?_
      rotate_left
      · (simp only [List.getElem?_toArray, List.getElem?_cons_succ, List.getElem?_cons_zero]; rfl)
      · exact fun _ _ _ h => h
      · exact Or.inr ⟨by rfl, rfl⟩
      try simp only [Act.put, List.setIfInBounds_toArray, List.set_cons_zero, List.set_cons_succ]
      refine takeL (i := 12) (oi := ?_) (v := undef) ?_ (by kernel_rfl) (by kernel_rfl) (by kernel_rfl) (by kernel_rfl) ?_ ?_ (by assumption) ?_
      rotate_left
      · (simp only [List.getElem?_toArray, List.getElem?_cons_succ, List.getElem?_cons_zero]; rfl)
      · exact fun _ _ _ h => h
      · exact Or.inr ⟨by rfl, rfl⟩
      try simp only [Act.put, List.setIfInBounds_toArray, List.set_cons_zero, List.set_cons_succ]
      refine takeL (i := 13) (oi := ?_) (v := undef) ?_ (by kernel_rfl) (by kernel_rfl) (by kernel_rfl) (by kernel_rfl) ?_ ?_ (by assumption) ?_
      rotate_left
      · (simp only [List.getElem?_toArray, List.getElem?_cons_succ, List.getElem?_cons_zero]; rfl)
      · exact fun _ _ _ h => h
      · exact Or.inr ⟨by rfl, rfl⟩
      try simp only [Act.put, List.setIfInBounds_toArray, List.set_cons_zero, List.set_cons_succ]
      refine takeL (i := 14) (oi := ?_) (v := undef) ?_ (by kernel_rfl) (by kernel_rfl) (by kernel_rfl) (by kernel_rfl) ?_ ?_ (by assumption) ?_
      rotate_left
      · (simp only [List.getElem?_toArray, List.getElem?_cons_succ, List.getElem?_cons_zero]; rfl)
      · exact fun _ _ _ h => h
      · exact Or.inr ⟨by rfl, rfl⟩
      try simp only [Act.put, List.setIfInBounds_toArray, List.set_cons_zero, List.set_cons_succ]
      refine takeL (i := 15) (oi := ?_) (v := undef) ?_ (by kernel_rfl) (by kernel_rfl) (by kernel_rfl) (by kernel_rfl) ?_ ?_ (by assumption) ?_
      rotate_left
      · (simp only [List.getElem?_toArray, List.getElem?_cons_succ, List.getElem?_cons_zero]; rfl)
      · exact fun _ _ _ h => h
      · exact Or.inr ⟨by rfl, rfl⟩
      try simp only [Act.put, List.setIfInBounds_toArray, List.set_cons_zero, List.set_cons_succ]
      refine takeL (i := 16) (oi := ?_) (v := undef) ?_ (by kernel_rfl) (by kernel_rfl) (by kernel_rfl) (by kernel_rfl) ?_ ?_ (by assumption) ?_
      rotate_left
      · (simp only [List.getElem?_toArray, List.getElem?_cons_succ, List.getElem?_cons_zero]; rfl)
      · exact fun _ _ _ h => h
      · exact Or.inr ⟨by rfl, rfl⟩
      try simp only [Act.put, List.setIfInBounds_toArray, List.set_cons_zero, List.set_cons_succ]
      refine takeL (i := 17) (oi := ?_) (v := undef) ?_ (by kernel_rfl) (by kernel_rfl) (by kernel_rfl) (by kernel_rfl) ?_ ?_ (by assumption) ?_
      rotate_left
      · (simp only [List.getElem?_toArray, List.getElem?_cons_succ, List.getElem?_cons_zero]; rfl)
      · exact fun _ _ _ h => h
      · exact Or.inr ⟨by rfl, rfl⟩
      try simp only [Act.put, List.setIfInBounds_toArray, List.set_cons_zero, List.set_cons_succ]
      refine takeL (i := 18) (oi := ?_) (v := ?_) ?_ (by kernel_rfl) (by kernel_rfl) (by kernel_rfl) (by kernel_rfl) ?_ (Or.inl ⟨?_, ?_⟩) (by assumption) ?_
      rotate_left 2
      · (simp only [List.getElem?_toArray, List.getElem?_cons_succ, List.getElem?_cons_zero]; rfl)
      · exact fun _ _ _ h => h
      · rfl
      · (intro w hSw; (try dsimp only at hSw); have S0 := hSw; obtain ⟨l0S, c0S0, _⟩ := S0.open1; clear S0; go_simp; (try with_reducible rfl))
      try simp only [Act.put, List.setIfInBounds_toArray, List.set_cons_zero, List.set_cons_succ]
      refine doneL (by kernel_rfl) ?_ _
      obtain ⟨w4, hw4⟩ : ∃ w4, w4 = w2.drew := ⟨_, rfl⟩
      have hbw4 : Below w2.heap.size w2 w4 := by rw [hw4]; exact Below.drew (Below.refl _ _)
      rw [← hw4]
      clear hw4
      have bbw4 := Lib.hid (later bbw2.out hbw4)
      have hzw4 := hbw4.size
      have Vaw4 := Lib.hid (Vaw2.out.step hbw4)
      have Vbw4 := Lib.hid (Vbw2.out.step hbw4)
      have Raw4 : Hid _ := Lib.hid (Raw2.out.below hbw4)
      have Rbw4 : Hid _ := Lib.hid (Rbw2.out.below hbw4)
      clear Vaw2
      clear Vbw2
      clear Raw2
      clear Rbw2
      obtain ⟨law4, caw4_0, faw4_0⟩ := Vaw4.out.open1
      obtain ⟨lbw4, cbw4_0, fbw4_0⟩ := Vbw4.out.open1
      go_wp2_with fail
      go_meet
      case rel => exact ⟨rfl, Lib.hid hbw4⟩
    · obtain ⟨g1, o1, r, eA, lg, er, p0, p1, _, _⟩ := Raw2.out.at_ La.out (show 0 < na by omega)
      subst eA
      have kp9 : 0 < na := by omega
      have kp : (0 : Int) < (na : Int) := by omega
      have hin := Pl.first_in oka er
      clear er
      simp only [Nat.zero_mul, Nat.add_zero] at p0 p1
      clear law2 caw2_0 faw2_0 lbw2 cbw2_0 fbw2_0
      have bbw5 : Hid (Below w.heap.size w w2.drew) := Lib.hid (Below.drew bbw2.out)
      have hzw5 : w2.heap.size ≤ w2.drew.heap.size := Nat.le_refl _
      have Vaw5 := Lib.hid (VB.drew Vaw2.out)
      have Vbw5 := Lib.hid (VB.drew Vbw2.out)
      have Raw5 : Hid _ := Lib.hid (show RArg w2.drew _ _ from Raw2.out)
      have Rbw5 : Hid _ := Lib.hid (show RArg w2.drew _ _ from Rbw2.out)
      refine regionL (S := (fun w' => VB w' (w1.heap.size) [.slice (some ⟨g1, o1, none⟩) na ca] ∧ w'.cell? ⟨g1, o1, none⟩ = some (.int .i64 r.x) ∧ w'.cell? ⟨g1, o1 + 1, none⟩ = some (.int .i64 r.y))) (L := 19) (by kernel_rfl) ?_ (fun hHeld => ?_)
      · (first | exact ⟨VB.step (hHeld.1) B9, ((keepc B9 g1 (by first | omega | (simp; omega))).1 _).trans (hHeld.2.1), ((keepc B9 g1 (by first | omega | (simp; omega))).1 _).trans (hHeld.2.2)⟩ | exact ⟨VB.step (hHeld.1) B9, VB.step (hHeld.2.1) B9, VB.step (hHeld.2.2) B9⟩ | exact ⟨VB.alloc (hHeld.1) _, VB.alloc (hHeld.2.1) _, VB.alloc (hHeld.2.2) _⟩ | exact ⟨VB.drew (VB.alloc (show VB w2 _ _ from hHeld.1) _), VB.drew (VB.alloc (show VB w2 _ _ from hHeld.2.1) _), VB.drew (VB.alloc (show VB w2 _ _ from hHeld.2.2) _)⟩ | exact ⟨VB.drew Vaw2.out, p0, p1⟩)
      refine takeL (i := 0) (oi := ?_) (v := ?_) ?_ (by kernel_rfl) (by kernel_rfl) (by kernel_rfl) (by kernel_rfl) ?_ (Or.inl ⟨?_, ?_⟩) (by assumption) ?_
      rotate_left 2
      · (simp only [List.getElem?_toArray, List.getElem?_cons_succ, List.getElem?_cons_zero]; rfl)
      · exact fun _ _ _ h => h
      · rfl
      · (intro w hSw; (try dsimp only at hSw); obtain ⟨S0, S1, S2⟩ := hSw; obtain ⟨l0S, c0S0, _⟩ := S0.open1; clear S0; go_simp; (try with_reducible rfl))
      try simp only [Act.put, List.setIfInBounds_toArray, List.set_cons_zero, List.set_cons_succ]
      refine takeL (i := 1) (oi := ?_) (v := ?_) ?_ (by kernel_rfl) (by kernel_rfl) (by kernel_rfl) (by kernel_rfl) ?_ (Or.inl ⟨?_, ?_⟩) (by assumption) ?_
      rotate_left 2
      · (simp only [List.getElem?_toArray, List.getElem?_cons_succ, List.getElem?_cons_zero]; rfl)
      · exact fun _ _ _ h => h
      · rfl
      · (intro w hSw; (try dsimp only at hSw); obtain ⟨S0, S1, S2⟩ := hSw; obtain ⟨l0S, c0S0, _⟩ := S0.open1; clear S0; go_simp; (try with_reducible rfl))
      try simp only [Act.put, List.setIfInBounds_toArray, List.set_cons_zero, List.set_cons_succ]
      refine takeL (i := 2) (oi := ?_) (v := ?_) ?_ (by kernel_rfl) (by kernel_rfl) (by kernel_rfl) (by kernel_rfl) ?_ (Or.inl ⟨?_, ?_⟩) (by assumption) ?_
      rotate_left 2
      · (simp only [List.getElem?_toArray, List.getElem?_cons_succ, List.getElem?_cons_zero]; rfl)
      · exact fun _ _ _ h => h
      · rfl
      · (intro w hSw; (try dsimp only at hSw); obtain ⟨S0, S1, S2⟩ := hSw; obtain ⟨l0S, c0S0, _⟩ := S0.open1; clear S0; go_simp; (try with_reducible rfl))
      try simp only [Act.put, List.setIfInBounds_toArray, List.set_cons_zero, List.set_cons_succ]
      refine takeL (i := 3) (oi := ?_) (v := ?_) ?_ (by kernel_rfl) (by kernel_rfl) (by kernel_rfl) (by kernel_rfl) ?_ (Or.inl ⟨?_, ?_⟩) (by assumption) ?_
      rotate_left 2
      · (simp only [List.getElem?_toArray, List.getElem?_cons_succ, List.getElem?_cons_zero]; rfl)
      · exact fun _ _ _ h => h
      · rfl
      · (intro w hSw; (try dsimp only at hSw); obtain ⟨S0, S1, S2⟩ := hSw; obtain ⟨l0S, c0S0, _⟩ := S0.open1; clear S0; go_simp; (try with_reducible rfl))
      try simp only [Act.put, List.setIfInBounds_toArray, List.set_cons_zero, List.set_cons_succ]
      refine takeL (i := 4) (oi := ?_) (v := ?_) ?_ (by kernel_rfl) (by kernel_rfl) (by kernel_rfl) (by kernel_rfl) ?_ (Or.inl ⟨?_, ?_⟩) (by assumption) ?_
      rotate_left 2
      · (simp only [List.getElem?_toArray, List.getElem?_cons_succ, List.getElem?_cons_zero]; rfl)
      · exact fun _ _ _ h => h
      · rfl
      · (intro w hSw; (try dsimp only at hSw); obtain ⟨S0, S1, S2⟩ := hSw; obtain ⟨l0S, c0S0, _⟩ := S0.open1; clear S0; go_simp; (try with_reducible rfl))
      try simp only [Act.put, List.setIfInBounds_toArray, List.set_cons_zero, List.set_cons_succ]
      refine takeL (i := 5) (oi := ?_) (v := ?_) ?_ (by kernel_rfl) (by kernel_rfl) (by kernel_rfl) (by kernel_rfl) ?_ (Or.inl ⟨?_, ?_⟩) (by assumption) ?_
      rotate_left 2
      · (simp only [List.getElem?_toArray, List.getElem?_cons_succ, List.getElem?_cons_zero]; rfl)
      · exact fun _ _ _ h => h
      · rfl
      · (intro w hSw; (try dsimp only at hSw); obtain ⟨S0, S1, S2⟩ := hSw; obtain ⟨l0S, c0S0, _⟩ := S0.open1; clear S0; go_simp; (try with_reducible rfl))
      try simp only [Act.put, List.setIfInBounds_toArray, List.set_cons_zero, List.set_cons_succ]
      refine takeL (i := 6) (oi := ?_) (v := ?_) ?_ (by kernel_rfl) (by kernel_rfl) (by kernel_rfl) (by kernel_rfl) ?_ (Or.inl ⟨?_, ?_⟩) (by assumption) ?_
      rotate_left 2
      · (simp only [List.getElem?_toArray, List.getElem?_cons_succ, List.getElem?_cons_zero]; rfl)
      · exact fun _ _ _ h => h
      · rfl
      · (intro w hSw; (try dsimp only at hSw); obtain ⟨S0, S1, S2⟩ := hSw; obtain ⟨l0S, c0S0, _⟩ := S0.open1; clear S0; go_simp; (try with_reducible rfl))
      try simp only [Act.put, List.setIfInBounds_toArray, List.set_cons_zero, List.set_cons_succ]
      refine takeL (i := 7) (oi := ?_) (v := ?_) ?_ (by kernel_rfl) (by kernel_rfl) (by kernel_rfl) (by kernel_rfl) ?_ (Or.inl ⟨?_, ?_⟩) (by assumption) ?_
      rotate_left 2
      · (simp only [List.getElem?_toArray, List.getElem?_cons_succ, List.getElem?_cons_zero]; rfl)
      · exact fun _ _ _ h => h
      · rfl
      · (intro w hSw; (try dsimp only at hSw); obtain ⟨S0, S1, S2⟩ := hSw; obtain ⟨l0S, c0S0, _⟩ := S0.open1; clear S0; go_simp; (try with_reducible rfl))
      try simp only [Act.put, List.setIfInBounds_toArray, List.set_cons_zero, List.set_cons_succ]
      refine takeL (i := 8) (oi := ?_) (v := ?_) ?_ (by kernel_rfl) (by kernel_rfl) (by kernel_rfl) (by kernel_rfl) ?_ (Or.inl ⟨?_, ?_⟩) (by assumption) ?_
      rotate_left 2
      · (simp only [List.getElem?_toArray, List.getElem?_cons_succ, List.getElem?_cons_zero]; rfl)
      · exact fun _ _ _ h => h
      · rfl
      · (intro w hSw; (try dsimp only at hSw); obtain ⟨S0, S1, S2⟩ := hSw; obtain ⟨l0S, c0S0, _⟩ := S0.open1; clear S0; go_simp; (try with_reducible rfl))
      try simp only [Act.put, List.setIfInBounds_toArray, List.set_cons_zero, List.set_cons_succ]
      refine takeL (i := 9) (oi := ?_) (v := ?_) ?_ (by kernel_rfl) (by kernel_rfl) (by kernel_rfl) (by kernel_rfl) ?_ (Or.inl ⟨?_, ?_⟩) (by assumption) ?_
      rotate_left 2
      · (simp only [List.getElem?_toArray, List.getElem?_cons_succ, List.getElem?_cons_zero]; rfl)
      · exact fun _ _ _ h => h
      · rfl
      · (intro w hSw; (try dsimp only at hSw); obtain ⟨S0, S1, S2⟩ := hSw; obtain ⟨l0S, c0S0, _⟩ := S0.open1; clear S0; go_simp; (try with_reducible rfl))
      try simp only [Act.put, List.setIfInBounds_toArray, List.set_cons_zero, List.set_cons_succ]
      refine takeL (i := 10) (oi := ?_) (v := ?_) ?_ (by kernel_rfl) (by kernel_rfl) (by kernel_rfl) (by kernel_rfl) ?_ (Or.inl ⟨?_, ?_⟩) (by assumption) ?_
      rotate_left 2
      · (simp only [List.getElem?_toArray, List.getElem?_cons_succ, List.getElem?_cons_zero]; rfl)
      · exact fun _ _ _ h => h
      · rfl
      · (intro w hSw; (try dsimp only at hSw); obtain ⟨S0, S1, S2⟩ := hSw; obtain ⟨l0S, c0S0, _⟩ := S0.open1; clear S0; go_simp; (try with_reducible rfl))
      try simp only [Act.put, List.setIfInBounds_toArray, List.set_cons_zero, List.set_cons_succ]
      refine takeL (i := 11) (oi := ?_) (v := ?_) ?_ (by kernel_rfl) (by kernel_rfl) (by kernel_rfl) (by kernel_rfl) ?_ (Or.inl ⟨?_, ?_⟩) (by assumption) ?_
      rotate_left 2
      · (simp only [List.getElem?_toArray, List.getElem?_cons_succ, List.getElem?_cons_zero]; rfl)
      · exact fun _ _ _ h => h
      · rfl
      · (intro w hSw; (try dsimp only at hSw); obtain ⟨S0, S1, S2⟩ := hSw; obtain ⟨l0S, c0S0, _⟩ := S0.open1; clear S0; go_simp; (try with_reducible rfl))
      try simp only [Act.put, List.setIfInBounds_toArray, List.set_cons_zero, List.set_cons_succ]
      refine takeL (i := 12) (oi := ?_) (v := ?_) ?_ (by kernel_rfl) (by kernel_rfl) (by kernel_rfl) (by kernel_rfl) ?_ (Or.inl ⟨?_, ?_⟩) (by assumption) ?_
      rotate_left 2
      · (simp only [List.getElem?_toArray, List.getElem?_cons_succ, List.getElem?_cons_zero]; rfl)
      · exact fun _ _ _ h => h
      · rfl
      · (intro w hSw; (try dsimp only at hSw); obtain ⟨S0, S1, S2⟩ := hSw; obtain ⟨l0S, c0S0, _⟩ := S0.open1; clear S0; go_simp; (try with_reducible rfl))
      try simp only [Act.put, List.setIfInBounds_toArray, List.set_cons_zero, List.set_cons_succ]
      refine takeL (i := 13) (oi := ?_) (v := ?_) ?_ (by kernel_rfl) (by kernel_rfl) (by kernel_rfl) (by kernel_rfl) ?_ (Or.inl ⟨?_, ?_⟩) (by assumption) ?_
      rotate_left 2
      · (simp only [List.getElem?_toArray, List.getElem?_cons_succ, List.getElem?_cons_zero]; rfl)
      · exact fun _ _ _ h => h
      · rfl
      · (intro w hSw; (try dsimp only at hSw); obtain ⟨S0, S1, S2⟩ := hSw; obtain ⟨l0S, c0S0, _⟩ := S0.open1; clear S0; go_simp; (try with_reducible rfl))
      try simp only [Act.put, List.setIfInBounds_toArray, List.set_cons_zero, List.set_cons_succ]
      refine takeL (i := 14) (oi := ?_) (v := ?_) ?_ (by kernel_rfl) (by kernel_rfl) (by kernel_rfl) (by kernel_rfl) ?_ (Or.inl ⟨?_, ?_⟩) (by assumption) ?_
      rotate_left 2
      · (simp only [List.getElem?_toArray, List.getElem?_cons_succ, List.getElem?_cons_zero]; rfl)
      · exact fun _ _ _ h => h
      · rfl
      · (intro w hSw; (try dsimp only at hSw); obtain ⟨S0, S1, S2⟩ := hSw; obtain ⟨l0S, c0S0, _⟩ := S0.open1; clear S0; go_simp; (try with_reducible rfl))
      try simp only [Act.put, List.setIfInBounds_toArray, List.set_cons_zero, List.set_cons_succ]
      refine takeL (i := 15) (oi := ?_) (v := ?_) ?_ (by kernel_rfl) (by kernel_rfl) (by kernel_rfl) (by kernel_rfl) ?_ (Or.inl ⟨?_, ?_⟩) (by assumption) ?_
      rotate_left 2
      · (simp only [List.getElem?_toArray, List.getElem?_cons_succ, List.getElem?_cons_zero]; rfl)
      · exact fun _ _ _ h => h
      · rfl
      · (intro w hSw; (try dsimp only at hSw); obtain ⟨S0, S1, S2⟩ := hSw; obtain ⟨l0S, c0S0, _⟩ := S0.open1; clear S0; go_simp; (try with_reducible rfl))
      try simp only [Act.put, List.setIfInBounds_toArray, List.set_cons_zero, List.set_cons_succ]
      refine readyL (rs := [16]) (by kernel_rfl) (by simp) ?_
      refine AllReadyL.cons (o := ?_) ?_ (fun K hK => ?_) AllReadyL.none_
      rotate_left
      · (simp only [List.getElem?_toArray, List.getElem?_cons_succ, List.getElem?_cons_zero]; rfl)
      go_simp
      go_at_call 27
      ((with_reducible refine (implInRegion _ _ _ za r.x r.y _ Raw5.out La.out (by omega)).mono ?_))
      rw [hin]
      rintro e w6 ⟨rfl, hbw6⟩
      have bbw6 := Lib.hid (later bbw5.out hbw6)
      have hzw6 := hbw6.size
      have Vaw6 := Lib.hid (Vaw5.out.step hbw6)
      have Vbw6 := Lib.hid (Vbw5.out.step hbw6)
      have Raw6 : Hid _ := Lib.hid (Raw5.out.below hbw6)
      have Rbw6 : Hid _ := Lib.hid (Rbw5.out.below hbw6)
      clear Vaw5
      clear Vbw5
      clear Raw5
      clear Rbw5
      obtain ⟨law6, caw6_0, faw6_0⟩ := Vaw6.out.open1
      obtain ⟨lbw6, cbw6_0, fbw6_0⟩ := Vbw6.out.open1
      have B9 := hbw6
      refine hK.out _ _ ?_ (fun hHeld => ?_)
      · (first | exact ⟨VB.step (hHeld.1) B9, ((keepc B9 g1 (by first | omega | (simp; omega))).1 _).trans (hHeld.2.1), ((keepc B9 g1 (by first | omega | (simp; omega))).1 _).trans (hHeld.2.2)⟩ | exact ⟨VB.step (hHeld.1) B9, VB.step (hHeld.2.1) B9, VB.step (hHeld.2.2) B9⟩ | exact ⟨VB.alloc (hHeld.1) _, VB.alloc (hHeld.2.1) _, VB.alloc (hHeld.2.2) _⟩ | exact ⟨VB.drew (VB.alloc (show VB w2 _ _ from hHeld.1) _), VB.drew (VB.alloc (show VB w2 _ _ from hHeld.2.1) _), VB.drew (VB.alloc (show VB w2 _ _ from hHeld.2.2) _)⟩ | exact ⟨VB.drew Vaw2.out, p0, p1⟩)
      clear hK K
      try simp only [Act.put, List.setIfInBounds_toArray, List.set_cons_zero, List.set_cons_succ]
      refine takeL (i := 17) (oi := ?_) (v := ?_) ?_ (by kernel_rfl) (by kernel_rfl) (by kernel_rfl) (by kernel_rfl) ?_ (Or.inl ⟨?_, ?_⟩) (by assumption) ?_
      rotate_left 2
      · (simp only [List.getElem?_toArray, List.getElem?_cons_succ, List.getElem?_cons_zero]; rfl)
      · exact fun _ _ _ h => h
      · rfl
      · (intro w hSw; (try dsimp only at hSw); obtain ⟨S0, S1, S2⟩ := hSw; obtain ⟨l0S, c0S0, _⟩ := S0.open1; clear S0; go_simp; (try with_reducible rfl))
      try simp only [Act.put, List.setIfInBounds_toArray, List.set_cons_zero, List.set_cons_succ]
      refine takeL (i := 18) (oi := ?_) (v := ?_) ?_ (by kernel_rfl) (by kernel_rfl) (by kernel_rfl) (by kernel_rfl) ?_ (Or.inl ⟨?_, ?_⟩) (by assumption) ?_
      rotate_left 2
      · (simp only [List.getElem?_toArray, List.getElem?_cons_succ, List.getElem?_cons_zero]; rfl)
      · exact fun _ _ _ h => h
      · rfl
      · (intro w hSw; (try dsimp only at hSw); obtain ⟨S0, S1, S2⟩ := hSw; obtain ⟨l0S, c0S0, _⟩ := S0.open1; clear S0; go_simp; (try with_reducible rfl))
      try simp only [Act.put, List.setIfInBounds_toArray, List.set_cons_zero, List.set_cons_succ]
      refine doneL (by kernel_rfl) ?_ _
      go_wp2_with fail
      go_meet
      case rel => exact ⟨rfl, Lib.hid ((Below.drew (Below.refl _ _)).trans (hbw6.mono (by simp)))⟩
  case rest =>
    obtain ⟨rfl, hB⟩ := hcut
    have hbw7 := hB.out
    clear hB
    obtain ⟨w7, rfl⟩ : ∃ w7 : World, w7 = wc := ⟨_, rfl⟩
    clear law2 caw2_0 faw2_0 lbw2 cbw2_0 fbw2_0
    have bbw7 := Lib.hid (later bbw2.out hbw7)
    have hzw7 := hbw7.size
    have Vaw7 := Lib.hid (Vaw2.out.step hbw7)
    have Vbw7 := Lib.hid (Vbw2.out.step hbw7)
    have Raw7 : Hid _ := Lib.hid (Raw2.out.below hbw7)
    have Rbw7 : Hid _ := Lib.hid (Rbw2.out.below hbw7)
    clear Vaw2
    clear Vbw2
    clear Raw2
    clear Rbw2
    obtain ⟨law7, caw7_0, faw7_0⟩ := Vaw7.out.open1
    obtain ⟨lbw7, cbw7_0, fbw7_0⟩ := Vbw7.out.open1
    have hu256 := Pl.unionOf_length za zb
    go_wp2_with fail
    refine (implUnionOf _ _ _ _ _ _ za zb _ Raw7.out Rbw7.out La.out Lb.out (by omega) (by omega)).mono ?_
    rintro e w8 ⟨Aw8, kw8, rfl, Ow8, hbw8⟩
    have Pw8 := Lib.hid Ow8
    clear Ow8
    clear law7 caw7_0 faw7_0 lbw7 cbw7_0 fbw7_0
    have bbw8 := Lib.hid (later bbw7.out hbw8)
    have hzw8 := hbw8.size
    have Vaw8 := Lib.hid (Vaw7.out.step hbw8)
    have Vbw8 := Lib.hid (Vbw7.out.step hbw8)
    have Raw8 : Hid _ := Lib.hid (Raw7.out.below hbw8)
    have Rbw8 : Hid _ := Lib.hid (Rbw7.out.below hbw8)
    clear Vaw7
    clear Vbw7
    clear Raw7
    clear Rbw7
    obtain ⟨law8, caw8_0, faw8_0⟩ := Vaw8.out.open1
    obtain ⟨lbw8, cbw8_0, fbw8_0⟩ := Vbw8.out.open1
    have Iuw8 := Pw8
    clear Pw8
    go_wp2_with fail
    clear law8 caw8_0 faw8_0 lbw8 cbw8_0 fbw8_0
    have Vaw9 := Lib.hid ((Vaw8.out).alloc (.cells #[.slice Aw8 (Pl.unionOf za zb).length kw8] 29 (0, 0)))
    have Vbw9 := Lib.hid ((Vbw8.out).alloc (.cells #[.slice Aw8 (Pl.unionOf za zb).length kw8] 29 (0, 0)))
    have Iuw9 : Hid _ := Lib.hid ((Iuw8.out).alloc (.cells #[.slice Aw8 (Pl.unionOf za zb).length kw8] 29 (0, 0)))
    have Vuw9 := Lib.hid (VB.new (w := w8) (b := w8.heap.size) (t := 29) (cs := [.slice Aw8 (Pl.unionOf za zb).length kw8]) (by simp))
    have hbw9 : Below w8.heap.size w8 (w8.alloc (.cells #[.slice Aw8 (Pl.unionOf za zb).length kw8] 29 (0, 0))) := by go_grown
    have bbw9 : Hid (Below w.heap.size w (w8.alloc (.cells #[.slice Aw8 (Pl.unionOf za zb).length kw8] 29 (0, 0)))) := Lib.hid (later bbw8.out hbw9)
    have hzw9 : w8.heap.size + 1 ≤ (w8.alloc (.cells #[.slice Aw8 (Pl.unionOf za zb).length kw8] 29 (0, 0))).heap.size := by simp
    have Raw9 : Hid _ := Lib.hid (Raw8.out.below hbw9)
    have Rbw9 : Hid _ := Lib.hid (Rbw8.out.below hbw9)
    generalize (w8.alloc (.cells #[.slice Aw8 (Pl.unionOf za zb).length kw8] 29 (0, 0))) = w9 at *
    obtain ⟨law9, caw9_0, faw9_0⟩ := Vaw9.out.open1
    obtain ⟨lbw9, cbw9_0, fbw9_0⟩ := Vbw9.out.open1
    obtain ⟨luw9, cuw9_0, fuw9_0⟩ := Vuw9.out.open1
    have hc256 := Pl.commonOf_length za zb
    refine (implCommonOf _ _ _ _ _ _ za zb _ Raw9.out Rbw9.out La.out Lb.out (by omega) (by omega)).mono ?_
    rintro e w10 ⟨Aw10, kw10, rfl, Ow10, hbw10⟩
    have Pw10 := Lib.hid Ow10
    clear Ow10
    clear law9 caw9_0 faw9_0 lbw9 cbw9_0 fbw9_0 luw9 cuw9_0 fuw9_0
    have bbw10 := Lib.hid (later bbw9.out hbw10)
    have hzw10 := hbw10.size
    have Vaw10 := Lib.hid (Vaw9.out.step hbw10)
    have Vbw10 := Lib.hid (Vbw9.out.step hbw10)
    have Vuw10 := Lib.hid (Vuw9.out.step hbw10)
    have Iuw10 : Hid _ := Lib.hid (Iuw9.out.step hbw10)
    have Raw10 : Hid _ := Lib.hid (Raw9.out.below hbw10)
    have Rbw10 : Hid _ := Lib.hid (Rbw9.out.below hbw10)
    clear Vaw9
    clear Vbw9
    clear Vuw9
    clear Iuw9
    clear Raw9
    clear Rbw9
    obtain ⟨law10, caw10_0, faw10_0⟩ := Vaw10.out.open1
    obtain ⟨lbw10, cbw10_0, fbw10_0⟩ := Vbw10.out.open1
    obtain ⟨luw10, cuw10_0, fuw10_0⟩ := Vuw10.out.open1
    have Icw10 := Pw10
    clear Pw10
    go_wp2_with fail
    clear law10 caw10_0 faw10_0 lbw10 cbw10_0 fbw10_0 luw10 cuw10_0 fuw10_0
    have Vaw11 := Lib.hid ((Vaw10.out).alloc (.cells #[.slice Aw10 (Pl.commonOf za zb).length kw10] 29 (0, 0)))
    have Vbw11 := Lib.hid ((Vbw10.out).alloc (.cells #[.slice Aw10 (Pl.commonOf za zb).length kw10] 29 (0, 0)))
    have Vuw11 := Lib.hid ((Vuw10.out).alloc (.cells #[.slice Aw10 (Pl.commonOf za zb).length kw10] 29 (0, 0)))
    have Iuw11 : Hid _ := Lib.hid ((Iuw10.out).alloc (.cells #[.slice Aw10 (Pl.commonOf za zb).length kw10] 29 (0, 0)))
    have Icw11 : Hid _ := Lib.hid ((Icw10.out).alloc (.cells #[.slice Aw10 (Pl.commonOf za zb).length kw10] 29 (0, 0)))
    have Vcw11 := Lib.hid (VB.new (w := w10) (b := w10.heap.size) (t := 29) (cs := [.slice Aw10 (Pl.commonOf za zb).length kw10]) (by simp))
    have hbw11 : Below w10.heap.size w10 (w10.alloc (.cells #[.slice Aw10 (Pl.commonOf za zb).length kw10] 29 (0, 0))) := by go_grown
    have bbw11 : Hid (Below w.heap.size w (w10.alloc (.cells #[.slice Aw10 (Pl.commonOf za zb).length kw10] 29 (0, 0)))) := Lib.hid (later bbw10.out hbw11)
    have hzw11 : w10.heap.size + 1 ≤ (w10.alloc (.cells #[.slice Aw10 (Pl.commonOf za zb).length kw10] 29 (0, 0))).heap.size := by simp
    have Raw11 : Hid _ := Lib.hid (Raw10.out.below hbw11)
    have Rbw11 : Hid _ := Lib.hid (Rbw10.out.below hbw11)
    generalize (w10.alloc (.cells #[.slice Aw10 (Pl.commonOf za zb).length kw10] 29 (0, 0))) = w11 at *
    obtain ⟨law11, caw11_0, faw11_0⟩ := Vaw11.out.open1
    obtain ⟨lbw11, cbw11_0, fbw11_0⟩ := Vbw11.out.open1
    obtain ⟨luw11, cuw11_0, fuw11_0⟩ := Vuw11.out.open1
    obtain ⟨lcw11, ccw11_0, fcw11_0⟩ := Vcw11.out.open1
    have hd256 := Pl.withoutOf_length za zb
    refine (implWithoutOf _ _ _ _ _ _ za zb _ Raw11.out Rbw11.out La.out Lb.out (by omega) (by omega)).mono ?_
    rintro e w12 ⟨Aw12, kw12, rfl, Ow12, hbw12⟩
    have Pw12 := Lib.hid Ow12
    clear Ow12
    clear law11 caw11_0 faw11_0 lbw11 cbw11_0 fbw11_0 luw11 cuw11_0 fuw11_0 lcw11 ccw11_0 fcw11_0
    have bbw12 := Lib.hid (later bbw11.out hbw12)
    have hzw12 := hbw12.size
    have Vaw12 := Lib.hid (Vaw11.out.step hbw12)
    have Vbw12 := Lib.hid (Vbw11.out.step hbw12)
    have Vuw12 := Lib.hid (Vuw11.out.step hbw12)
    have Vcw12 := Lib.hid (Vcw11.out.step hbw12)
    have Iuw12 : Hid _ := Lib.hid (Iuw11.out.step hbw12)
    have Icw12 : Hid _ := Lib.hid (Icw11.out.step hbw12)
    have Raw12 : Hid _ := Lib.hid (Raw11.out.below hbw12)
    have Rbw12 : Hid _ := Lib.hid (Rbw11.out.below hbw12)
    clear Vaw11
    clear Vbw11
    clear Vuw11
    clear Vcw11
    clear Iuw11
    clear Icw11
    clear Raw11
    clear Rbw11
    obtain ⟨law12, caw12_0, faw12_0⟩ := Vaw12.out.open1
    obtain ⟨lbw12, cbw12_0, fbw12_0⟩ := Vbw12.out.open1
    obtain ⟨luw12, cuw12_0, fuw12_0⟩ := Vuw12.out.open1
    obtain ⟨lcw12, ccw12_0, fcw12_0⟩ := Vcw12.out.open1
    have Idw12 := Pw12
    clear Pw12
    go_wp2_with fail
    clear law12 caw12_0 faw12_0 lbw12 cbw12_0 fbw12_0 luw12 cuw12_0 fuw12_0 lcw12 ccw12_0 fcw12_0
    have Vaw13 := Lib.hid ((Vaw12.out).alloc (.cells #[.slice Aw12 (Pl.withoutOf za zb).length kw12] 29 (0, 0)))
    have Vbw13 := Lib.hid ((Vbw12.out).alloc (.cells #[.slice Aw12 (Pl.withoutOf za zb).length kw12] 29 (0, 0)))
    have Vuw13 := Lib.hid ((Vuw12.out).alloc (.cells #[.slice Aw12 (Pl.withoutOf za zb).length kw12] 29 (0, 0)))
    have Vcw13 := Lib.hid ((Vcw12.out).alloc (.cells #[.slice Aw12 (Pl.withoutOf za zb).length kw12] 29 (0, 0)))
    have Iuw13 : Hid _ := Lib.hid ((Iuw12.out).alloc (.cells #[.slice Aw12 (Pl.withoutOf za zb).length kw12] 29 (0, 0)))
    have Icw13 : Hid _ := Lib.hid ((Icw12.out).alloc (.cells #[.slice Aw12 (Pl.withoutOf za zb).length kw12] 29 (0, 0)))
    have Idw13 : Hid _ := Lib.hid ((Idw12.out).alloc (.cells #[.slice Aw12 (Pl.withoutOf za zb).length kw12] 29 (0, 0)))
    have Vdw13 := Lib.hid (VB.new (w := w12) (b := w12.heap.size) (t := 29) (cs := [.slice Aw12 (Pl.withoutOf za zb).length kw12]) (by simp))
    have hbw13 : Below w12.heap.size w12 (w12.alloc (.cells #[.slice Aw12 (Pl.withoutOf za zb).length kw12] 29 (0, 0))) := by go_grown
    have bbw13 : Hid (Below w.heap.size w (w12.alloc (.cells #[.slice Aw12 (Pl.withoutOf za zb).length kw12] 29 (0, 0)))) := Lib.hid (later bbw12.out hbw13)
    have hzw13 : w12.heap.size + 1 ≤ (w12.alloc (.cells #[.slice Aw12 (Pl.withoutOf za zb).length kw12] 29 (0, 0))).heap.size := by simp
    have Raw13 : Hid _ := Lib.hid (Raw12.out.below hbw13)
    have Rbw13 : Hid _ := Lib.hid (Rbw12.out.below hbw13)
    generalize (w12.alloc (.cells #[.slice Aw12 (Pl.withoutOf za zb).length kw12] 29 (0, 0))) = w13 at *
    obtain ⟨law13, caw13_0, faw13_0⟩ := Vaw13.out.open1
    obtain ⟨lbw13, cbw13_0, fbw13_0⟩ := Vbw13.out.open1
    obtain ⟨luw13, cuw13_0, fuw13_0⟩ := Vuw13.out.open1
    obtain ⟨lcw13, ccw13_0, fcw13_0⟩ := Vcw13.out.open1
    obtain ⟨ldw13, cdw13_0, fdw13_0⟩ := Vdw13.out.open1
    go_loopw [8] (fun sk wr => ∃ k : Nat, k ≤ 12 ∧ sk = .int .i64 k ∧ Hid (Below w13.heap.size w13 wr)) (fun sk _ => 12 - (intOf sk).toNat)
    case atStart => exact ⟨0, by omega, rfl, Lib.hid (Below.refl _ _)⟩
    case round =>
      obtain ⟨w14, rfl⟩ : ∃ w14 : World, w14 = wr := ⟨_, rfl⟩
      obtain ⟨k, hk, rfl, hB⟩ := hrel
      have hbw14 := hB.out
      clear hB
      clear law13 caw13_0 faw13_0 lbw13 cbw13_0 fbw13_0 luw13 cuw13_0 fuw13_0 lcw13 ccw13_0 fcw13_0 ldw13 cdw13_0 fdw13_0
      have bbw14 := Lib.hid (later bbw13.out hbw14)
      have hzw14 := hbw14.size
      have Vaw14 := Lib.hid (Vaw13.out.step hbw14)
      have Vbw14 := Lib.hid (Vbw13.out.step hbw14)
      have Vuw14 := Lib.hid (Vuw13.out.step hbw14)
      have Vcw14 := Lib.hid (Vcw13.out.step hbw14)
      have Vdw14 := Lib.hid (Vdw13.out.step hbw14)
      have Iuw14 : Hid _ := Lib.hid (Iuw13.out.step hbw14)
      have Icw14 : Hid _ := Lib.hid (Icw13.out.step hbw14)
      have Idw14 : Hid _ := Lib.hid (Idw13.out.step hbw14)
      have Raw14 : Hid _ := Lib.hid (Raw13.out.below hbw14)
      have Rbw14 : Hid _ := Lib.hid (Rbw13.out.below hbw14)
      clear Vaw13
      clear Vbw13
      clear Vuw13
      clear Vcw13
      clear Vdw13
      clear Iuw13
      clear Icw13
      clear Idw13
      clear Raw13
      clear Rbw13
      obtain ⟨law14, caw14_0, faw14_0⟩ := Vaw14.out.open1
      obtain ⟨lbw14, cbw14_0, fbw14_0⟩ := Vbw14.out.open1
      obtain ⟨luw14, cuw14_0, fuw14_0⟩ := Vuw14.out.open1
      obtain ⟨lcw14, ccw14_0, fcw14_0⟩ := Vcw14.out.open1
      obtain ⟨ldw14, cdw14_0, fdw14_0⟩ := Vdw14.out.open1
      have kp0 : (0 : Int) ≤ (k : Int) := Int.natCast_nonneg _
      by_cases hlt : k < 12
      · have kp1 : (k : Int) < 12 := by omega
        go_wp2_with fail
        refine (at_any a len cap z _ _ (isRow_below HR.out bbw14.out) (by omega) (by omega)).mono ?_
        rintro e w' ⟨x, x0, x1, rfl, rfl⟩
        go_wp2_with fail
        refine (at_any a len cap z _ _ (isRow_below HR.out bbw14.out) (by omega) (by omega)).mono ?_
        rintro e w' ⟨y, y0, y1, rfl, rfl⟩
        go_wp2_with fail
        obtain ⟨i, hi⟩ := Int.eq_ofNat_of_zero_le (show 0 ≤ x % 16 by omega)
        obtain ⟨j, hj⟩ := Int.eq_ofNat_of_zero_le (show 0 ≤ y % 16 by omega)
        have hi16 : i < 16 := by omega
        have hj16 : j < 16 := by omega
        rw [hi, hj]
        clear hi hj x0 x1 y0 y1
        have bjw14 := Lib.hid hbw14
        cases hp : Pl.inRegion za (i : Int) (j : Int)
        · skip
          cases hq : Pl.inRegion zb (i : Int) (j : Int)
          · skip
            refine (implInRegion _ _ _ za (i : Int) (j : Int) _ Raw14.out La.out (by omega)).mono ?_
            rw [hp]
            rintro e w15 ⟨rfl, hbw15⟩
            clear law14 caw14_0 faw14_0 lbw14 cbw14_0 fbw14_0 luw14 cuw14_0 fuw14_0 lcw14 ccw14_0 fcw14_0 ldw14 cdw14_0 fdw14_0
            have bbw15 := Lib.hid (later bbw14.out hbw15)
            have hzw15 := hbw15.size
            have Vaw15 := Lib.hid (Vaw14.out.step hbw15)
            have Vbw15 := Lib.hid (Vbw14.out.step hbw15)
            have Vuw15 := Lib.hid (Vuw14.out.step hbw15)
            have Vcw15 := Lib.hid (Vcw14.out.step hbw15)
            have Vdw15 := Lib.hid (Vdw14.out.step hbw15)
            have Iuw15 : Hid _ := Lib.hid (Iuw14.out.step hbw15)
            have Icw15 : Hid _ := Lib.hid (Icw14.out.step hbw15)
            have Idw15 : Hid _ := Lib.hid (Idw14.out.step hbw15)
            have Raw15 : Hid _ := Lib.hid (Raw14.out.below hbw15)
            have Rbw15 : Hid _ := Lib.hid (Rbw14.out.below hbw15)
            clear Vaw14
            clear Vbw14
            clear Vuw14
            clear Vcw14
            clear Vdw14
            clear Iuw14
            clear Icw14
            clear Idw14
            clear Raw14
            clear Rbw14
            obtain ⟨law15, caw15_0, faw15_0⟩ := Vaw15.out.open1
            obtain ⟨lbw15, cbw15_0, fbw15_0⟩ := Vbw15.out.open1
            obtain ⟨luw15, cuw15_0, fuw15_0⟩ := Vuw15.out.open1
            obtain ⟨lcw15, ccw15_0, fcw15_0⟩ := Vcw15.out.open1
            obtain ⟨ldw15, cdw15_0, fdw15_0⟩ := Vdw15.out.open1
            have bjw15 := Lib.hid (later bjw14.out hbw15)
            go_wp2_with fail
            refine (implInRegion _ _ _ zb (i : Int) (j : Int) _ Rbw15.out Lb.out (by omega)).mono ?_
            rw [hq]
            rintro e w16 ⟨rfl, hbw16⟩
            clear law15 caw15_0 faw15_0 lbw15 cbw15_0 fbw15_0 luw15 cuw15_0 fuw15_0 lcw15 ccw15_0 fcw15_0 ldw15 cdw15_0 fdw15_0
            have bbw16 := Lib.hid (later bbw15.out hbw16)
            have hzw16 := hbw16.size
            have Vaw16 := Lib.hid (Vaw15.out.step hbw16)
            have Vbw16 := Lib.hid (Vbw15.out.step hbw16)
            have Vuw16 := Lib.hid (Vuw15.out.step hbw16)
            have Vcw16 := Lib.hid (Vcw15.out.step hbw16)
            have Vdw16 := Lib.hid (Vdw15.out.step hbw16)
            have Iuw16 : Hid _ := Lib.hid (Iuw15.out.step hbw16)
            have Icw16 : Hid _ := Lib.hid (Icw15.out.step hbw16)
            have Idw16 : Hid _ := Lib.hid (Idw15.out.step hbw16)
            have Raw16 : Hid _ := Lib.hid (Raw15.out.below hbw16)
            have Rbw16 : Hid _ := Lib.hid (Rbw15.out.below hbw16)
            clear Vaw15
            clear Vbw15
            clear Vuw15
            clear Vcw15
            clear Vdw15
            clear Iuw15
            clear Icw15
            clear Idw15
            clear Raw15
            clear Rbw15
            obtain ⟨law16, caw16_0, faw16_0⟩ := Vaw16.out.open1
            obtain ⟨lbw16, cbw16_0, fbw16_0⟩ := Vbw16.out.open1
            obtain ⟨luw16, cuw16_0, fuw16_0⟩ := Vuw16.out.open1
            obtain ⟨lcw16, ccw16_0, fcw16_0⟩ := Vcw16.out.open1
            obtain ⟨ldw16, cdw16_0, fdw16_0⟩ := Vdw16.out.open1
            have bjw16 := Lib.hid (later bjw15.out hbw16)
            go_wp2_with fail
            refine (implInRegion _ _ _ (Pl.unionOf za zb) (i : Int) (j : Int) _ (Recs.arg Iuw16.out) rfl (by omega)).mono ?_
            rw [Pl.in_union oka okb hi16 hj16, hp, hq]
            rintro e w17 ⟨rfl, hbw17⟩
            clear law16 caw16_0 faw16_0 lbw16 cbw16_0 fbw16_0 luw16 cuw16_0 fuw16_0 lcw16 ccw16_0 fcw16_0 ldw16 cdw16_0 fdw16_0
            have bbw17 := Lib.hid (later bbw16.out hbw17)
            have hzw17 := hbw17.size
            have Vaw17 := Lib.hid (Vaw16.out.step hbw17)
            have Vbw17 := Lib.hid (Vbw16.out.step hbw17)
            have Vuw17 := Lib.hid (Vuw16.out.step hbw17)
            have Vcw17 := Lib.hid (Vcw16.out.step hbw17)
            have Vdw17 := Lib.hid (Vdw16.out.step hbw17)
            have Iuw17 : Hid _ := Lib.hid (Iuw16.out.step hbw17)
            have Icw17 : Hid _ := Lib.hid (Icw16.out.step hbw17)
            have Idw17 : Hid _ := Lib.hid (Idw16.out.step hbw17)
            have Raw17 : Hid _ := Lib.hid (Raw16.out.below hbw17)
            have Rbw17 : Hid _ := Lib.hid (Rbw16.out.below hbw17)
            clear Vaw16
            clear Vbw16
            clear Vuw16
            clear Vcw16
            clear Vdw16
            clear Iuw16
            clear Icw16
            clear Idw16
            clear Raw16
            clear Rbw16
            obtain ⟨law17, caw17_0, faw17_0⟩ := Vaw17.out.open1
            obtain ⟨lbw17, cbw17_0, fbw17_0⟩ := Vbw17.out.open1
            obtain ⟨luw17, cuw17_0, fuw17_0⟩ := Vuw17.out.open1
            obtain ⟨lcw17, ccw17_0, fcw17_0⟩ := Vcw17.out.open1
            obtain ⟨ldw17, cdw17_0, fdw17_0⟩ := Vdw17.out.open1
            have bjw17 := Lib.hid (later bjw16.out hbw17)
            go_wp2_with fail
            refine (implInRegion _ _ _ (Pl.commonOf za zb) (i : Int) (j : Int) _ (Recs.arg Icw17.out) rfl (by omega)).mono ?_
            rw [Pl.in_common oka okb hi16 hj16, hp, hq]
            rintro e w18 ⟨rfl, hbw18⟩
            clear law17 caw17_0 faw17_0 lbw17 cbw17_0 fbw17_0 luw17 cuw17_0 fuw17_0 lcw17 ccw17_0 fcw17_0 ldw17 cdw17_0 fdw17_0
            have bbw18 := Lib.hid (later bbw17.out hbw18)
            have hzw18 := hbw18.size
            have Vaw18 := Lib.hid (Vaw17.out.step hbw18)
            have Vbw18 := Lib.hid (Vbw17.out.step hbw18)
            have Vuw18 := Lib.hid (Vuw17.out.step hbw18)
            have Vcw18 := Lib.hid (Vcw17.out.step hbw18)
            have Vdw18 := Lib.hid (Vdw17.out.step hbw18)
            have Iuw18 : Hid _ := Lib.hid (Iuw17.out.step hbw18)
            have Icw18 : Hid _ := Lib.hid (Icw17.out.step hbw18)
            have Idw18 : Hid _ := Lib.hid (Idw17.out.step hbw18)
            have Raw18 : Hid _ := Lib.hid (Raw17.out.below hbw18)
            have Rbw18 : Hid _ := Lib.hid (Rbw17.out.below hbw18)
            clear Vaw17
            clear Vbw17
            clear Vuw17
            clear Vcw17
            clear Vdw17
            clear Iuw17
            clear Icw17
            clear Idw17
            clear Raw17
            clear Rbw17
            obtain ⟨law18, caw18_0, faw18_0⟩ := Vaw18.out.open1
            obtain ⟨lbw18, cbw18_0, fbw18_0⟩ := Vbw18.out.open1
            obtain ⟨luw18, cuw18_0, fuw18_0⟩ := Vuw18.out.open1
            obtain ⟨lcw18, ccw18_0, fcw18_0⟩ := Vcw18.out.open1
            obtain ⟨ldw18, cdw18_0, fdw18_0⟩ := Vdw18.out.open1
            have bjw18 := Lib.hid (later bjw17.out hbw18)
            go_wp2_with fail
            refine (implInRegion _ _ _ (Pl.withoutOf za zb) (i : Int) (j : Int) _ (Recs.arg Idw18.out) rfl (by omega)).mono ?_
            rw [Pl.in_without oka okb hi16 hj16, hp, hq]
            rintro e w19 ⟨rfl, hbw19⟩
            clear law18 caw18_0 faw18_0 lbw18 cbw18_0 fbw18_0 luw18 cuw18_0 fuw18_0 lcw18 ccw18_0 fcw18_0 ldw18 cdw18_0 fdw18_0
            have bbw19 := Lib.hid (later bbw18.out hbw19)
            have hzw19 := hbw19.size
            have Vaw19 := Lib.hid (Vaw18.out.step hbw19)
            have Vbw19 := Lib.hid (Vbw18.out.step hbw19)
            have Vuw19 := Lib.hid (Vuw18.out.step hbw19)
            have Vcw19 := Lib.hid (Vcw18.out.step hbw19)
            have Vdw19 := Lib.hid (Vdw18.out.step hbw19)
            have Iuw19 : Hid _ := Lib.hid (Iuw18.out.step hbw19)
            have Icw19 : Hid _ := Lib.hid (Icw18.out.step hbw19)
            have Idw19 : Hid _ := Lib.hid (Idw18.out.step hbw19)
            have Raw19 : Hid _ := Lib.hid (Raw18.out.below hbw19)
            have Rbw19 : Hid _ := Lib.hid (Rbw18.out.below hbw19)
            clear Vaw18
            clear Vbw18
            clear Vuw18
            clear Vcw18
            clear Vdw18
            clear Iuw18
            clear Icw18
            clear Idw18
            clear Raw18
            clear Rbw18
            obtain ⟨law19, caw19_0, faw19_0⟩ := Vaw19.out.open1
            obtain ⟨lbw19, cbw19_0, fbw19_0⟩ := Vbw19.out.open1
            obtain ⟨luw19, cuw19_0, fuw19_0⟩ := Vuw19.out.open1
            obtain ⟨lcw19, ccw19_0, fcw19_0⟩ := Vcw19.out.open1
            obtain ⟨ldw19, cdw19_0, fdw19_0⟩ := Vdw19.out.open1
            have bjw19 := Lib.hid (later bjw18.out hbw19)
            go_wp2_with fail
            go_roundw
            case rel => exact ⟨k + 1, by omega, by go_num, bjw19⟩
            case measure => simp [intOf]; omega
          · skip
            refine (implInRegion _ _ _ za (i : Int) (j : Int) _ Raw14.out La.out (by omega)).mono ?_
            rw [hp]
            rintro e w20 ⟨rfl, hbw20⟩
            clear law14 caw14_0 faw14_0 lbw14 cbw14_0 fbw14_0 luw14 cuw14_0 fuw14_0 lcw14 ccw14_0 fcw14_0 ldw14 cdw14_0 fdw14_0
            have bbw20 := Lib.hid (later bbw14.out hbw20)
            have hzw20 := hbw20.size
            have Vaw20 := Lib.hid (Vaw14.out.step hbw20)
            have Vbw20 := Lib.hid (Vbw14.out.step hbw20)
            have Vuw20 := Lib.hid (Vuw14.out.step hbw20)
            have Vcw20 := Lib.hid (Vcw14.out.step hbw20)
            have Vdw20 := Lib.hid (Vdw14.out.step hbw20)
            have Iuw20 : Hid _ := Lib.hid (Iuw14.out.step hbw20)
            have Icw20 : Hid _ := Lib.hid (Icw14.out.step hbw20)
            have Idw20 : Hid _ := Lib.hid (Idw14.out.step hbw20)
            have Raw20 : Hid _ := Lib.hid (Raw14.out.below hbw20)
            have Rbw20 : Hid _ := Lib.hid (Rbw14.out.below hbw20)
            clear Vaw14
            clear Vbw14
            clear Vuw14
            clear Vcw14
            clear Vdw14
            clear Iuw14
            clear Icw14
            clear Idw14
            clear Raw14
            clear Rbw14
            obtain ⟨law20, caw20_0, faw20_0⟩ := Vaw20.out.open1
            obtain ⟨lbw20, cbw20_0, fbw20_0⟩ := Vbw20.out.open1
            obtain ⟨luw20, cuw20_0, fuw20_0⟩ := Vuw20.out.open1
            obtain ⟨lcw20, ccw20_0, fcw20_0⟩ := Vcw20.out.open1
            obtain ⟨ldw20, cdw20_0, fdw20_0⟩ := Vdw20.out.open1
            have bjw20 := Lib.hid (later bjw14.out hbw20)
            go_wp2_with fail
            refine (implInRegion _ _ _ zb (i : Int) (j : Int) _ Rbw20.out Lb.out (by omega)).mono ?_
            rw [hq]
            rintro e w21 ⟨rfl, hbw21⟩
            clear law20 caw20_0 faw20_0 lbw20 cbw20_0 fbw20_0 luw20 cuw20_0 fuw20_0 lcw20 ccw20_0 fcw20_0 ldw20 cdw20_0 fdw20_0
            have bbw21 := Lib.hid (later bbw20.out hbw21)
            have hzw21 := hbw21.size
            have Vaw21 := Lib.hid (Vaw20.out.step hbw21)
            have Vbw21 := Lib.hid (Vbw20.out.step hbw21)
            have Vuw21 := Lib.hid (Vuw20.out.step hbw21)
            have Vcw21 := Lib.hid (Vcw20.out.step hbw21)
            have Vdw21 := Lib.hid (Vdw20.out.step hbw21)
            have Iuw21 : Hid _ := Lib.hid (Iuw20.out.step hbw21)
            have Icw21 : Hid _ := Lib.hid (Icw20.out.step hbw21)
            have Idw21 : Hid _ := Lib.hid (Idw20.out.step hbw21)
            have Raw21 : Hid _ := Lib.hid (Raw20.out.below hbw21)
            have Rbw21 : Hid _ := Lib.hid (Rbw20.out.below hbw21)
            clear Vaw20
            clear Vbw20
            clear Vuw20
            clear Vcw20
            clear Vdw20
            clear Iuw20
            clear Icw20
            clear Idw20
            clear Raw20
            clear Rbw20
            obtain ⟨law21, caw21_0, faw21_0⟩ := Vaw21.out.open1
            obtain ⟨lbw21, cbw21_0, fbw21_0⟩ := Vbw21.out.open1
            obtain ⟨luw21, cuw21_0, fuw21_0⟩ := Vuw21.out.open1
            obtain ⟨lcw21, ccw21_0, fcw21_0⟩ := Vcw21.out.open1
            obtain ⟨ldw21, cdw21_0, fdw21_0⟩ := Vdw21.out.open1
            have bjw21 := Lib.hid (later bjw20.out hbw21)
            go_wp2_with fail
            refine (implInRegion _ _ _ (Pl.unionOf za zb) (i : Int) (j : Int) _ (Recs.arg Iuw21.out) rfl (by omega)).mono ?_
            rw [Pl.in_union oka okb hi16 hj16, hp, hq]
            rintro e w22 ⟨rfl, hbw22⟩
            clear law21 caw21_0 faw21_0 lbw21 cbw21_0 fbw21_0 luw21 cuw21_0 fuw21_0 lcw21 ccw21_0 fcw21_0 ldw21 cdw21_0 fdw21_0
            have bbw22 := Lib.hid (later bbw21.out hbw22)
            have hzw22 := hbw22.size
            have Vaw22 := Lib.hid (Vaw21.out.step hbw22)
            have Vbw22 := Lib.hid (Vbw21.out.step hbw22)
            have Vuw22 := Lib.hid (Vuw21.out.step hbw22)
            have Vcw22 := Lib.hid (Vcw21.out.step hbw22)
            have Vdw22 := Lib.hid (Vdw21.out.step hbw22)
            have Iuw22 : Hid _ := Lib.hid (Iuw21.out.step hbw22)
            have Icw22 : Hid _ := Lib.hid (Icw21.out.step hbw22)
            have Idw22 : Hid _ := Lib.hid (Idw21.out.step hbw22)
            have Raw22 : Hid _ := Lib.hid (Raw21.out.below hbw22)
            have Rbw22 : Hid _ := Lib.hid (Rbw21.out.below hbw22)
            clear Vaw21
            clear Vbw21
            clear Vuw21
            clear Vcw21
            clear Vdw21
            clear Iuw21
            clear Icw21
            clear Idw21
            clear Raw21
            clear Rbw21
            obtain ⟨law22, caw22_0, faw22_0⟩ := Vaw22.out.open1
            obtain ⟨lbw22, cbw22_0, fbw22_0⟩ := Vbw22.out.open1
            obtain ⟨luw22, cuw22_0, fuw22_0⟩ := Vuw22.out.open1
            obtain ⟨lcw22, ccw22_0, fcw22_0⟩ := Vcw22.out.open1
            obtain ⟨ldw22, cdw22_0, fdw22_0⟩ := Vdw22.out.open1
            have bjw22 := Lib.hid (later bjw21.out hbw22)
            go_wp2_with fail
            refine (implInRegion _ _ _ (Pl.commonOf za zb) (i : Int) (j : Int) _ (Recs.arg Icw22.out) rfl (by omega)).mono ?_
            rw [Pl.in_common oka okb hi16 hj16, hp, hq]
            rintro e w23 ⟨rfl, hbw23⟩
            clear law22 caw22_0 faw22_0 lbw22 cbw22_0 fbw22_0 luw22 cuw22_0 fuw22_0 lcw22 ccw22_0 fcw22_0 ldw22 cdw22_0 fdw22_0
            have bbw23 := Lib.hid (later bbw22.out hbw23)
            have hzw23 := hbw23.size
            have Vaw23 := Lib.hid (Vaw22.out.step hbw23)
            have Vbw23 := Lib.hid (Vbw22.out.step hbw23)
            have Vuw23 := Lib.hid (Vuw22.out.step hbw23)
            have Vcw23 := Lib.hid (Vcw22.out.step hbw23)
            have Vdw23 := Lib.hid (Vdw22.out.step hbw23)
            have Iuw23 : Hid _ := Lib.hid (Iuw22.out.step hbw23)
            have Icw23 : Hid _ := Lib.hid (Icw22.out.step hbw23)
            have Idw23 : Hid _ := Lib.hid (Idw22.out.step hbw23)
            have Raw23 : Hid _ := Lib.hid (Raw22.out.below hbw23)
            have Rbw23 : Hid _ := Lib.hid (Rbw22.out.below hbw23)
            clear Vaw22
            clear Vbw22
            clear Vuw22
            clear Vcw22
            clear Vdw22
            clear Iuw22
            clear Icw22
            clear Idw22
            clear Raw22
            clear Rbw22
            obtain ⟨law23, caw23_0, faw23_0⟩ := Vaw23.out.open1
            obtain ⟨lbw23, cbw23_0, fbw23_0⟩ := Vbw23.out.open1
            obtain ⟨luw23, cuw23_0, fuw23_0⟩ := Vuw23.out.open1
            obtain ⟨lcw23, ccw23_0, fcw23_0⟩ := Vcw23.out.open1
            obtain ⟨ldw23, cdw23_0, fdw23_0⟩ := Vdw23.out.open1
            have bjw23 := Lib.hid (later bjw22.out hbw23)
            go_wp2_with fail
            refine (implInRegion _ _ _ (Pl.withoutOf za zb) (i : Int) (j : Int) _ (Recs.arg Idw23.out) rfl (by omega)).mono ?_
            rw [Pl.in_without oka okb hi16 hj16, hp, hq]
            rintro e w24 ⟨rfl, hbw24⟩
            clear law23 caw23_0 faw23_0 lbw23 cbw23_0 fbw23_0 luw23 cuw23_0 fuw23_0 lcw23 ccw23_0 fcw23_0 ldw23 cdw23_0 fdw23_0
            have bbw24 := Lib.hid (later bbw23.out hbw24)
            have hzw24 := hbw24.size
            have Vaw24 := Lib.hid (Vaw23.out.step hbw24)
            have Vbw24 := Lib.hid (Vbw23.out.step hbw24)
            have Vuw24 := Lib.hid (Vuw23.out.step hbw24)
            have Vcw24 := Lib.hid (Vcw23.out.step hbw24)
            have Vdw24 := Lib.hid (Vdw23.out.step hbw24)
            have Iuw24 : Hid _ := Lib.hid (Iuw23.out.step hbw24)
            have Icw24 : Hid _ := Lib.hid (Icw23.out.step hbw24)
            have Idw24 : Hid _ := Lib.hid (Idw23.out.step hbw24)
            have Raw24 : Hid _ := Lib.hid (Raw23.out.below hbw24)
            have Rbw24 : Hid _ := Lib.hid (Rbw23.out.below hbw24)
            clear Vaw23
            clear Vbw23
            clear Vuw23
            clear Vcw23
            clear Vdw23
            clear Iuw23
            clear Icw23
            clear Idw23
            clear Raw23
            clear Rbw23
            obtain ⟨law24, caw24_0, faw24_0⟩ := Vaw24.out.open1
            obtain ⟨lbw24, cbw24_0, fbw24_0⟩ := Vbw24.out.open1
            obtain ⟨luw24, cuw24_0, fuw24_0⟩ := Vuw24.out.open1
            obtain ⟨lcw24, ccw24_0, fcw24_0⟩ := Vcw24.out.open1
            obtain ⟨ldw24, cdw24_0, fdw24_0⟩ := Vdw24.out.open1
            have bjw24 := Lib.hid (later bjw23.out hbw24)
            go_wp2_with fail
            go_roundw
            case rel => exact ⟨k + 1, by omega, by go_num, bjw24⟩
            case measure => simp [intOf]; omega
        · skip
          cases hq : Pl.inRegion zb (i : Int) (j : Int)
          · skip
            refine (implInRegion _ _ _ za (i : Int) (j : Int) _ Raw14.out La.out (by omega)).mono ?_
            rw [hp]
            rintro e w25 ⟨rfl, hbw25⟩
            clear law14 caw14_0 faw14_0 lbw14 cbw14_0 fbw14_0 luw14 cuw14_0 fuw14_0 lcw14 ccw14_0 fcw14_0 ldw14 cdw14_0 fdw14_0
            have bbw25 := Lib.hid (later bbw14.out hbw25)
            have hzw25 := hbw25.size
            have Vaw25 := Lib.hid (Vaw14.out.step hbw25)
            have Vbw25 := Lib.hid (Vbw14.out.step hbw25)
            have Vuw25 := Lib.hid (Vuw14.out.step hbw25)
            have Vcw25 := Lib.hid (Vcw14.out.step hbw25)
            have Vdw25 := Lib.hid (Vdw14.out.step hbw25)
            have Iuw25 : Hid _ := Lib.hid (Iuw14.out.step hbw25)
            have Icw25 : Hid _ := Lib.hid (Icw14.out.step hbw25)
            have Idw25 : Hid _ := Lib.hid (Idw14.out.step hbw25)
            have Raw25 : Hid _ := Lib.hid (Raw14.out.below hbw25)
            have Rbw25 : Hid _ := Lib.hid (Rbw14.out.below hbw25)
            clear Vaw14
            clear Vbw14
            clear Vuw14
            clear Vcw14
            clear Vdw14
            clear Iuw14
            clear Icw14
            clear Idw14
            clear Raw14
            clear Rbw14
            obtain ⟨law25, caw25_0, faw25_0⟩ := Vaw25.out.open1
            obtain ⟨lbw25, cbw25_0, fbw25_0⟩ := Vbw25.out.open1
            obtain ⟨luw25, cuw25_0, fuw25_0⟩ := Vuw25.out.open1
            obtain ⟨lcw25, ccw25_0, fcw25_0⟩ := Vcw25.out.open1
            obtain ⟨ldw25, cdw25_0, fdw25_0⟩ := Vdw25.out.open1
            have bjw25 := Lib.hid (later bjw14.out hbw25)
            go_wp2_with fail
            refine (implInRegion _ _ _ zb (i : Int) (j : Int) _ Rbw25.out Lb.out (by omega)).mono ?_
            rw [hq]
            rintro e w26 ⟨rfl, hbw26⟩
            clear law25 caw25_0 faw25_0 lbw25 cbw25_0 fbw25_0 luw25 cuw25_0 fuw25_0 lcw25 ccw25_0 fcw25_0 ldw25 cdw25_0 fdw25_0
            have bbw26 := Lib.hid (later bbw25.out hbw26)
            have hzw26 := hbw26.size
            have Vaw26 := Lib.hid (Vaw25.out.step hbw26)
            have Vbw26 := Lib.hid (Vbw25.out.step hbw26)
            have Vuw26 := Lib.hid (Vuw25.out.step hbw26)
            have Vcw26 := Lib.hid (Vcw25.out.step hbw26)
            have Vdw26 := Lib.hid (Vdw25.out.step hbw26)
            have Iuw26 : Hid _ := Lib.hid (Iuw25.out.step hbw26)
            have Icw26 : Hid _ := Lib.hid (Icw25.out.step hbw26)
            have Idw26 : Hid _ := Lib.hid (Idw25.out.step hbw26)
            have Raw26 : Hid _ := Lib.hid (Raw25.out.below hbw26)
            have Rbw26 : Hid _ := Lib.hid (Rbw25.out.below hbw26)
            clear Vaw25
            clear Vbw25
            clear Vuw25
            clear Vcw25
            clear Vdw25
            clear Iuw25
            clear Icw25
            clear Idw25
            clear Raw25
            clear Rbw25
            obtain ⟨law26, caw26_0, faw26_0⟩ := Vaw26.out.open1
            obtain ⟨lbw26, cbw26_0, fbw26_0⟩ := Vbw26.out.open1
            obtain ⟨luw26, cuw26_0, fuw26_0⟩ := Vuw26.out.open1
            obtain ⟨lcw26, ccw26_0, fcw26_0⟩ := Vcw26.out.open1
            obtain ⟨ldw26, cdw26_0, fdw26_0⟩ := Vdw26.out.open1
            have bjw26 := Lib.hid (later bjw25.out hbw26)
            go_wp2_with fail
            refine (implInRegion _ _ _ (Pl.unionOf za zb) (i : Int) (j : Int) _ (Recs.arg Iuw26.out) rfl (by omega)).mono ?_
            rw [Pl.in_union oka okb hi16 hj16, hp, hq]
            rintro e w27 ⟨rfl, hbw27⟩
            clear law26 caw26_0 faw26_0 lbw26 cbw26_0 fbw26_0 luw26 cuw26_0 fuw26_0 lcw26 ccw26_0 fcw26_0 ldw26 cdw26_0 fdw26_0
            have bbw27 := Lib.hid (later bbw26.out hbw27)
            have hzw27 := hbw27.size
            have Vaw27 := Lib.hid (Vaw26.out.step hbw27)
            have Vbw27 := Lib.hid (Vbw26.out.step hbw27)
            have Vuw27 := Lib.hid (Vuw26.out.step hbw27)
            have Vcw27 := Lib.hid (Vcw26.out.step hbw27)
            have Vdw27 := Lib.hid (Vdw26.out.step hbw27)
            have Iuw27 : Hid _ := Lib.hid (Iuw26.out.step hbw27)
            have Icw27 : Hid _ := Lib.hid (Icw26.out.step hbw27)
            have Idw27 : Hid _ := Lib.hid (Idw26.out.step hbw27)
            have Raw27 : Hid _ := Lib.hid (Raw26.out.below hbw27)
            have Rbw27 : Hid _ := Lib.hid (Rbw26.out.below hbw27)
            clear Vaw26
            clear Vbw26
            clear Vuw26
            clear Vcw26
            clear Vdw26
            clear Iuw26
            clear Icw26
            clear Idw26
            clear Raw26
            clear Rbw26
            obtain ⟨law27, caw27_0, faw27_0⟩ := Vaw27.out.open1
            obtain ⟨lbw27, cbw27_0, fbw27_0⟩ := Vbw27.out.open1
            obtain ⟨luw27, cuw27_0, fuw27_0⟩ := Vuw27.out.open1
            obtain ⟨lcw27, ccw27_0, fcw27_0⟩ := Vcw27.out.open1
            obtain ⟨ldw27, cdw27_0, fdw27_0⟩ := Vdw27.out.open1
            have bjw27 := Lib.hid (later bjw26.out hbw27)
            go_wp2_with fail
            refine (implInRegion _ _ _ (Pl.commonOf za zb) (i : Int) (j : Int) _ (Recs.arg Icw27.out) rfl (by omega)).mono ?_
            rw [Pl.in_common oka okb hi16 hj16, hp, hq]
            rintro e w28 ⟨rfl, hbw28⟩
            clear law27 caw27_0 faw27_0 lbw27 cbw27_0 fbw27_0 luw27 cuw27_0 fuw27_0 lcw27 ccw27_0 fcw27_0 ldw27 cdw27_0 fdw27_0
            have bbw28 := Lib.hid (later bbw27.out hbw28)
            have hzw28 := hbw28.size
            have Vaw28 := Lib.hid (Vaw27.out.step hbw28)
            have Vbw28 := Lib.hid (Vbw27.out.step hbw28)
            have Vuw28 := Lib.hid (Vuw27.out.step hbw28)
            have Vcw28 := Lib.hid (Vcw27.out.step hbw28)
            have Vdw28 := Lib.hid (Vdw27.out.step hbw28)
            have Iuw28 : Hid _ := Lib.hid (Iuw27.out.step hbw28)
            have Icw28 : Hid _ := Lib.hid (Icw27.out.step hbw28)
            have Idw28 : Hid _ := Lib.hid (Idw27.out.step hbw28)
            have Raw28 : Hid _ := Lib.hid (Raw27.out.below hbw28)
            have Rbw28 : Hid _ := Lib.hid (Rbw27.out.below hbw28)
            clear Vaw27
            clear Vbw27
            clear Vuw27
            clear Vcw27
            clear Vdw27
            clear Iuw27
            clear Icw27
            clear Idw27
            clear Raw27
            clear Rbw27
            obtain ⟨law28, caw28_0, faw28_0⟩ := Vaw28.out.open1
            obtain ⟨lbw28, cbw28_0, fbw28_0⟩ := Vbw28.out.open1
            obtain ⟨luw28, cuw28_0, fuw28_0⟩ := Vuw28.out.open1
            obtain ⟨lcw28, ccw28_0, fcw28_0⟩ := Vcw28.out.open1
            obtain ⟨ldw28, cdw28_0, fdw28_0⟩ := Vdw28.out.open1
            have bjw28 := Lib.hid (later bjw27.out hbw28)
            go_wp2_with fail
            refine (implInRegion _ _ _ (Pl.withoutOf za zb) (i : Int) (j : Int) _ (Recs.arg Idw28.out) rfl (by omega)).mono ?_
            rw [Pl.in_without oka okb hi16 hj16, hp, hq]
            rintro e w29 ⟨rfl, hbw29⟩
            clear law28 caw28_0 faw28_0 lbw28 cbw28_0 fbw28_0 luw28 cuw28_0 fuw28_0 lcw28 ccw28_0 fcw28_0 ldw28 cdw28_0 fdw28_0
            have bbw29 := Lib.hid (later bbw28.out hbw29)
            have hzw29 := hbw29.size
            have Vaw29 := Lib.hid (Vaw28.out.step hbw29)
            have Vbw29 := Lib.hid (Vbw28.out.step hbw29)
            have Vuw29 := Lib.hid (Vuw28.out.step hbw29)
            have Vcw29 := Lib.hid (Vcw28.out.step hbw29)
            have Vdw29 := Lib.hid (Vdw28.out.step hbw29)
            have Iuw29 : Hid _ := Lib.hid (Iuw28.out.step hbw29)
            have Icw29 : Hid _ := Lib.hid (Icw28.out.step hbw29)
            have Idw29 : Hid _ := Lib.hid (Idw28.out.step hbw29)
            have Raw29 : Hid _ := Lib.hid (Raw28.out.below hbw29)
            have Rbw29 : Hid _ := Lib.hid (Rbw28.out.below hbw29)
            clear Vaw28
            clear Vbw28
            clear Vuw28
            clear Vcw28
            clear Vdw28
            clear Iuw28
            clear Icw28
            clear Idw28
            clear Raw28
            clear Rbw28
            obtain ⟨law29, caw29_0, faw29_0⟩ := Vaw29.out.open1
            obtain ⟨lbw29, cbw29_0, fbw29_0⟩ := Vbw29.out.open1
            obtain ⟨luw29, cuw29_0, fuw29_0⟩ := Vuw29.out.open1
            obtain ⟨lcw29, ccw29_0, fcw29_0⟩ := Vcw29.out.open1
            obtain ⟨ldw29, cdw29_0, fdw29_0⟩ := Vdw29.out.open1
            have bjw29 := Lib.hid (later bjw28.out hbw29)
            go_wp2_with fail
            go_roundw
            case rel => exact ⟨k + 1, by omega, by go_num, bjw29⟩
            case measure => simp [intOf]; omega
          · skip
            refine (implInRegion _ _ _ za (i : Int) (j : Int) _ Raw14.out La.out (by omega)).mono ?_
            rw [hp]
            rintro e w30 ⟨rfl, hbw30⟩
            clear law14 caw14_0 faw14_0 lbw14 cbw14_0 fbw14_0 luw14 cuw14_0 fuw14_0 lcw14 ccw14_0 fcw14_0 ldw14 cdw14_0 fdw14_0
            have bbw30 := Lib.hid (later bbw14.out hbw30)
            have hzw30 := hbw30.size
            have Vaw30 := Lib.hid (Vaw14.out.step hbw30)
            have Vbw30 := Lib.hid (Vbw14.out.step hbw30)
            have Vuw30 := Lib.hid (Vuw14.out.step hbw30)
            have Vcw30 := Lib.hid (Vcw14.out.step hbw30)
            have Vdw30 := Lib.hid (Vdw14.out.step hbw30)
            have Iuw30 : Hid _ := Lib.hid (Iuw14.out.step hbw30)
            have Icw30 : Hid _ := Lib.hid (Icw14.out.step hbw30)
            have Idw30 : Hid _ := Lib.hid (Idw14.out.step hbw30)
            have Raw30 : Hid _ := Lib.hid (Raw14.out.below hbw30)
            have Rbw30 : Hid _ := Lib.hid (Rbw14.out.below hbw30)
            clear Vaw14
            clear Vbw14
            clear Vuw14
            clear Vcw14
            clear Vdw14
            clear Iuw14
            clear Icw14
            clear Idw14
            clear Raw14
            clear Rbw14
            obtain ⟨law30, caw30_0, faw30_0⟩ := Vaw30.out.open1
            obtain ⟨lbw30, cbw30_0, fbw30_0⟩ := Vbw30.out.open1
            obtain ⟨luw30, cuw30_0, fuw30_0⟩ := Vuw30.out.open1
            obtain ⟨lcw30, ccw30_0, fcw30_0⟩ := Vcw30.out.open1
            obtain ⟨ldw30, cdw30_0, fdw30_0⟩ := Vdw30.out.open1
            have bjw30 := Lib.hid (later bjw14.out hbw30)
            go_wp2_with fail
            refine (implInRegion _ _ _ zb (i : Int) (j : Int) _ Rbw30.out Lb.out (by omega)).mono ?_
            rw [hq]
            rintro e w31 ⟨rfl, hbw31⟩
            clear law30 caw30_0 faw30_0 lbw30 cbw30_0 fbw30_0 luw30 cuw30_0 fuw30_0 lcw30 ccw30_0 fcw30_0 ldw30 cdw30_0 fdw30_0
            have bbw31 := Lib.hid (later bbw30.out hbw31)
            have hzw31 := hbw31.size
            have Vaw31 := Lib.hid (Vaw30.out.step hbw31)
            have Vbw31 := Lib.hid (Vbw30.out.step hbw31)
            have Vuw31 := Lib.hid (Vuw30.out.step hbw31)
            have Vcw31 := Lib.hid (Vcw30.out.step hbw31)
            have Vdw31 := Lib.hid (Vdw30.out.step hbw31)
            have Iuw31 : Hid _ := Lib.hid (Iuw30.out.step hbw31)
            have Icw31 : Hid _ := Lib.hid (Icw30.out.step hbw31)
            have Idw31 : Hid _ := Lib.hid (Idw30.out.step hbw31)
            have Raw31 : Hid _ := Lib.hid (Raw30.out.below hbw31)
            have Rbw31 : Hid _ := Lib.hid (Rbw30.out.below hbw31)
            clear Vaw30
            clear Vbw30
            clear Vuw30
            clear Vcw30
            clear Vdw30
            clear Iuw30
            clear Icw30
            clear Idw30
            clear Raw30
            clear Rbw30
            obtain ⟨law31, caw31_0, faw31_0⟩ := Vaw31.out.open1
            obtain ⟨lbw31, cbw31_0, fbw31_0⟩ := Vbw31.out.open1
            obtain ⟨luw31, cuw31_0, fuw31_0⟩ := Vuw31.out.open1
            obtain ⟨lcw31, ccw31_0, fcw31_0⟩ := Vcw31.out.open1
            obtain ⟨ldw31, cdw31_0, fdw31_0⟩ := Vdw31.out.open1
            have bjw31 := Lib.hid (later bjw30.out hbw31)
            go_wp2_with fail
            refine (implInRegion _ _ _ (Pl.unionOf za zb) (i : Int) (j : Int) _ (Recs.arg Iuw31.out) rfl (by omega)).mono ?_
            rw [Pl.in_union oka okb hi16 hj16, hp, hq]
            rintro e w32 ⟨rfl, hbw32⟩
            clear law31 caw31_0 faw31_0 lbw31 cbw31_0 fbw31_0 luw31 cuw31_0 fuw31_0 lcw31 ccw31_0 fcw31_0 ldw31 cdw31_0 fdw31_0
            have bbw32 := Lib.hid (later bbw31.out hbw32)
            have hzw32 := hbw32.size
            have Vaw32 := Lib.hid (Vaw31.out.step hbw32)
            have Vbw32 := Lib.hid (Vbw31.out.step hbw32)
            have Vuw32 := Lib.hid (Vuw31.out.step hbw32)
            have Vcw32 := Lib.hid (Vcw31.out.step hbw32)
            have Vdw32 := Lib.hid (Vdw31.out.step hbw32)
            have Iuw32 : Hid _ := Lib.hid (Iuw31.out.step hbw32)
            have Icw32 : Hid _ := Lib.hid (Icw31.out.step hbw32)
            have Idw32 : Hid _ := Lib.hid (Idw31.out.step hbw32)
            have Raw32 : Hid _ := Lib.hid (Raw31.out.below hbw32)
            have Rbw32 : Hid _ := Lib.hid (Rbw31.out.below hbw32)
            clear Vaw31
            clear Vbw31
            clear Vuw31
            clear Vcw31
            clear Vdw31
            clear Iuw31
            clear Icw31
            clear Idw31
            clear Raw31
            clear Rbw31
            obtain ⟨law32, caw32_0, faw32_0⟩ := Vaw32.out.open1
            obtain ⟨lbw32, cbw32_0, fbw32_0⟩ := Vbw32.out.open1
            obtain ⟨luw32, cuw32_0, fuw32_0⟩ := Vuw32.out.open1
            obtain ⟨lcw32, ccw32_0, fcw32_0⟩ := Vcw32.out.open1
            obtain ⟨ldw32, cdw32_0, fdw32_0⟩ := Vdw32.out.open1
            have bjw32 := Lib.hid (later bjw31.out hbw32)
            go_wp2_with fail
            refine (implInRegion _ _ _ (Pl.commonOf za zb) (i : Int) (j : Int) _ (Recs.arg Icw32.out) rfl (by omega)).mono ?_
            rw [Pl.in_common oka okb hi16 hj16, hp, hq]
            rintro e w33 ⟨rfl, hbw33⟩
            clear law32 caw32_0 faw32_0 lbw32 cbw32_0 fbw32_0 luw32 cuw32_0 fuw32_0 lcw32 ccw32_0 fcw32_0 ldw32 cdw32_0 fdw32_0
            have bbw33 := Lib.hid (later bbw32.out hbw33)
            have hzw33 := hbw33.size
            have Vaw33 := Lib.hid (Vaw32.out.step hbw33)
            have Vbw33 := Lib.hid (Vbw32.out.step hbw33)
            have Vuw33 := Lib.hid (Vuw32.out.step hbw33)
            have Vcw33 := Lib.hid (Vcw32.out.step hbw33)
            have Vdw33 := Lib.hid (Vdw32.out.step hbw33)
            have Iuw33 : Hid _ := Lib.hid (Iuw32.out.step hbw33)
            have Icw33 : Hid _ := Lib.hid (Icw32.out.step hbw33)
            have Idw33 : Hid _ := Lib.hid (Idw32.out.step hbw33)
            have Raw33 : Hid _ := Lib.hid (Raw32.out.below hbw33)
            have Rbw33 : Hid _ := Lib.hid (Rbw32.out.below hbw33)
            clear Vaw32
            clear Vbw32
            clear Vuw32
            clear Vcw32
            clear Vdw32
            clear Iuw32
            clear Icw32
            clear Idw32
            clear Raw32
            clear Rbw32
            obtain ⟨law33, caw33_0, faw33_0⟩ := Vaw33.out.open1
            obtain ⟨lbw33, cbw33_0, fbw33_0⟩ := Vbw33.out.open1
            obtain ⟨luw33, cuw33_0, fuw33_0⟩ := Vuw33.out.open1
            obtain ⟨lcw33, ccw33_0, fcw33_0⟩ := Vcw33.out.open1
            obtain ⟨ldw33, cdw33_0, fdw33_0⟩ := Vdw33.out.open1
            have bjw33 := Lib.hid (later bjw32.out hbw33)
            go_wp2_with fail
            refine (implInRegion _ _ _ (Pl.withoutOf za zb) (i : Int) (j : Int) _ (Recs.arg Idw33.out) rfl (by omega)).mono ?_
            rw [Pl.in_without oka okb hi16 hj16, hp, hq]
            rintro e w34 ⟨rfl, hbw34⟩
            clear law33 caw33_0 faw33_0 lbw33 cbw33_0 fbw33_0 luw33 cuw33_0 fuw33_0 lcw33 ccw33_0 fcw33_0 ldw33 cdw33_0 fdw33_0
            have bbw34 := Lib.hid (later bbw33.out hbw34)
            have hzw34 := hbw34.size
            have Vaw34 := Lib.hid (Vaw33.out.step hbw34)
            have Vbw34 := Lib.hid (Vbw33.out.step hbw34)
            have Vuw34 := Lib.hid (Vuw33.out.step hbw34)
            have Vcw34 := Lib.hid (Vcw33.out.step hbw34)
            have Vdw34 := Lib.hid (Vdw33.out.step hbw34)
            have Iuw34 : Hid _ := Lib.hid (Iuw33.out.step hbw34)
            have Icw34 : Hid _ := Lib.hid (Icw33.out.step hbw34)
            have Idw34 : Hid _ := Lib.hid (Idw33.out.step hbw34)
            have Raw34 : Hid _ := Lib.hid (Raw33.out.below hbw34)
            have Rbw34 : Hid _ := Lib.hid (Rbw33.out.below hbw34)
            clear Vaw33
            clear Vbw33
            clear Vuw33
            clear Vcw33
            clear Vdw33
            clear Iuw33
            clear Icw33
            clear Idw33
            clear Raw33
            clear Rbw33
            obtain ⟨law34, caw34_0, faw34_0⟩ := Vaw34.out.open1
            obtain ⟨lbw34, cbw34_0, fbw34_0⟩ := Vbw34.out.open1
            obtain ⟨luw34, cuw34_0, fuw34_0⟩ := Vuw34.out.open1
            obtain ⟨lcw34, ccw34_0, fcw34_0⟩ := Vcw34.out.open1
            obtain ⟨ldw34, cdw34_0, fdw34_0⟩ := Vdw34.out.open1
            have bjw34 := Lib.hid (later bjw33.out hbw34)
            go_wp2_with fail
            go_roundw
            case rel => exact ⟨k + 1, by omega, by go_num, bjw34⟩
            case measure => simp [intOf]; omega
      · obtain rfl : k = 12 := by omega
        have bU := Pl.areaOf_bd (Pl.unionOf za zb)
        have bC := Pl.areaOf_bd (Pl.commonOf za zb)
        have bD := Pl.areaOf_bd (Pl.withoutOf za zb)
        have bA := Pl.areaOf_bd za
        have bB := Pl.areaOf_bd zb
        have e1 := Pl.area_union oka okb
        have e2 := Pl.area_without oka okb
        generalize hU : Pl.areaOf (Pl.unionOf za zb) = Uv at *
        generalize hC : Pl.areaOf (Pl.commonOf za zb) = Cv at *
        generalize hD : Pl.areaOf (Pl.withoutOf za zb) = Dv at *
        generalize hA : Pl.areaOf za = Av at *
        generalize hB : Pl.areaOf zb = Bv at *
        have q1 : IntKind.i64.wrap (Uv + Cv) = Uv + Cv := IntWalk.i64_in _ ⟨by omega, by omega⟩
        have q2 : IntKind.i64.wrap (Av + Bv) = Av + Bv := IntWalk.i64_in _ ⟨by omega, by omega⟩
        have q3 : IntKind.i64.wrap (Dv + Cv) = Dv + Cv := IntWalk.i64_in _ ⟨by omega, by omega⟩
        have q4 : (Uv + Cv == Av + Bv) = true := by simp; omega
        have q5 : (Dv + Cv == Av) = true := by simp; omega
        clear e1 e2
        go_wp2_with fail
        clear law14 caw14_0 faw14_0 lbw14 cbw14_0 fbw14_0 luw14 cuw14_0 fuw14_0 lcw14 ccw14_0 fcw14_0 ldw14 cdw14_0 fdw14_0
        have bbw35 : Hid (Below w.heap.size w w14.drew) := Lib.hid (Below.drew bbw14.out)
        have hzw35 : w14.heap.size ≤ w14.drew.heap.size := Nat.le_refl _
        have Vaw35 := Lib.hid (VB.drew Vaw14.out)
        have Vbw35 := Lib.hid (VB.drew Vbw14.out)
        have Vuw35 := Lib.hid (VB.drew Vuw14.out)
        have Vcw35 := Lib.hid (VB.drew Vcw14.out)
        have Vdw35 := Lib.hid (VB.drew Vdw14.out)
        have Iuw35 : Hid _ := Lib.hid (show Recs w14.drew _ _ _ _ from Iuw14.out)
        have Icw35 : Hid _ := Lib.hid (show Recs w14.drew _ _ _ _ from Icw14.out)
        have Idw35 : Hid _ := Lib.hid (show Recs w14.drew _ _ _ _ from Idw14.out)
        have Raw35 : Hid _ := Lib.hid (show RArg w14.drew _ _ from Raw14.out)
        have Rbw35 : Hid _ := Lib.hid (show RArg w14.drew _ _ from Rbw14.out)
        refine regionL (S := (fun w' => VB w' (w8.heap.size) [.slice Aw8 (Pl.unionOf za zb).length kw8] ∧ VB w' (w10.heap.size) [.slice Aw10 (Pl.commonOf za zb).length kw10] ∧ VB w' (w1.heap.size) [.slice Aa na ca] ∧ VB w' (w1.heap.size + 1) [.slice Ab nb cb] ∧ VB w' (w12.heap.size) [.slice Aw12 (Pl.withoutOf za zb).length kw12])) (L := 22) (by kernel_rfl) ?_ (fun hHeld => ?_)
        · (first | exact ⟨VB.step (hHeld.1) B9, VB.step (hHeld.2.1) B9, VB.step (hHeld.2.2.1) B9, VB.step (hHeld.2.2.2.1) B9, VB.step (hHeld.2.2.2.2) B9⟩ | exact ⟨VB.alloc (hHeld.1) _, VB.alloc (hHeld.2.1) _, VB.alloc (hHeld.2.2.1) _, VB.alloc (hHeld.2.2.2.1) _, VB.alloc (hHeld.2.2.2.2) _⟩ | exact ⟨VB.drew (VB.alloc (show VB w14 _ _ from hHeld.1) _), VB.drew (VB.alloc (show VB w14 _ _ from hHeld.2.1) _), VB.drew (VB.alloc (show VB w14 _ _ from hHeld.2.2.1) _), VB.drew (VB.alloc (show VB w14 _ _ from hHeld.2.2.2.1) _), VB.drew (VB.alloc (show VB w14 _ _ from hHeld.2.2.2.2) _)⟩ | exact ⟨VB.drew Vuw14.out, VB.drew Vcw14.out, VB.drew Vaw14.out, VB.drew Vbw14.out, VB.drew Vdw14.out⟩)
        refine takeL (i := 0) (oi := ?_) (v := ?_) ?_ (by kernel_rfl) (by kernel_rfl) (by kernel_rfl) (by kernel_rfl) ?_ (Or.inl ⟨?_, ?_⟩) (by assumption) ?_
        rotate_left 2
        · (simp only [List.getElem?_toArray, List.getElem?_cons_succ, List.getElem?_cons_zero]; rfl)
        · exact fun _ _ _ h => h
        · rfl
        · (intro w hSw; (try dsimp only at hSw); obtain ⟨S0, S1, S2, S3, S4⟩ := hSw; obtain ⟨l0S, c0S0, _⟩ := S0.open1; obtain ⟨l1S, c1S0, _⟩ := S1.open1; obtain ⟨l2S, c2S0, _⟩ := S2.open1; obtain ⟨l3S, c3S0, _⟩ := S3.open1; obtain ⟨l4S, c4S0, _⟩ := S4.open1; clear S0 S1 S2 S3 S4; go_simp; (try with_reducible rfl))
        try simp only [Act.put, List.setIfInBounds_toArray, List.set_cons_zero, List.set_cons_succ]
        refine takeL (i := 2) (oi := ?_) (v := ?_) ?_ (by kernel_rfl) (by kernel_rfl) (by kernel_rfl) (by kernel_rfl) ?_ (Or.inl ⟨?_, ?_⟩) (by assumption) ?_
        rotate_left 2
        · (simp only [List.getElem?_toArray, List.getElem?_cons_succ, List.getElem?_cons_zero]; rfl)
        · exact fun _ _ _ h => h
        · rfl
        · (intro w hSw; (try dsimp only at hSw); obtain ⟨S0, S1, S2, S3, S4⟩ := hSw; obtain ⟨l0S, c0S0, _⟩ := S0.open1; obtain ⟨l1S, c1S0, _⟩ := S1.open1; obtain ⟨l2S, c2S0, _⟩ := S2.open1; obtain ⟨l3S, c3S0, _⟩ := S3.open1; obtain ⟨l4S, c4S0, _⟩ := S4.open1; clear S0 S1 S2 S3 S4; go_simp; (try with_reducible rfl))
        try simp only [Act.put, List.setIfInBounds_toArray, List.set_cons_zero, List.set_cons_succ]
        refine takeL (i := 5) (oi := ?_) (v := ?_) ?_ (by kernel_rfl) (by kernel_rfl) (by kernel_rfl) (by kernel_rfl) ?_ (Or.inl ⟨?_, ?_⟩) (by assumption) ?_
        rotate_left 2
        · (simp only [List.getElem?_toArray, List.getElem?_cons_succ, List.getElem?_cons_zero]; rfl)
        · exact fun _ _ _ h => h
        · rfl
        · (intro w hSw; (try dsimp only at hSw); obtain ⟨S0, S1, S2, S3, S4⟩ := hSw; obtain ⟨l0S, c0S0, _⟩ := S0.open1; obtain ⟨l1S, c1S0, _⟩ := S1.open1; obtain ⟨l2S, c2S0, _⟩ := S2.open1; obtain ⟨l3S, c3S0, _⟩ := S3.open1; obtain ⟨l4S, c4S0, _⟩ := S4.open1; clear S0 S1 S2 S3 S4; go_simp; (try with_reducible rfl))
        try simp only [Act.put, List.setIfInBounds_toArray, List.set_cons_zero, List.set_cons_succ]
        refine takeL (i := 7) (oi := ?_) (v := ?_) ?_ (by kernel_rfl) (by kernel_rfl) (by kernel_rfl) (by kernel_rfl) ?_ (Or.inl ⟨?_, ?_⟩) (by assumption) ?_
        rotate_left 2
        · (simp only [List.getElem?_toArray, List.getElem?_cons_succ, List.getElem?_cons_zero]; rfl)
        · exact fun _ _ _ h => h
        · rfl
        · (intro w hSw; (try dsimp only at hSw); obtain ⟨S0, S1, S2, S3, S4⟩ := hSw; obtain ⟨l0S, c0S0, _⟩ := S0.open1; obtain ⟨l1S, c1S0, _⟩ := S1.open1; obtain ⟨l2S, c2S0, _⟩ := S2.open1; obtain ⟨l3S, c3S0, _⟩ := S3.open1; obtain ⟨l4S, c4S0, _⟩ := S4.open1; clear S0 S1 S2 S3 S4; go_simp; (try with_reducible rfl))
        try simp only [Act.put, List.setIfInBounds_toArray, List.set_cons_zero, List.set_cons_succ]
        refine readyL (rs := [1]) (by kernel_rfl) (by simp) ?_
        refine AllReadyL.cons (o := ?_) ?_ (fun K hK => ?_) AllReadyL.none_
        rotate_left
        · (simp only [List.getElem?_toArray, List.getElem?_cons_succ, List.getElem?_cons_zero]; rfl)
        go_simp
        go_at_call 29
        ((with_reducible refine (implAreaOf _ _ _ (Pl.unionOf za zb) _ (Recs.arg Iuw35.out) rfl (by omega)).mono ?_))
        rw [hU]
        rintro e w36 ⟨rfl, hbw36⟩
        have bbw36 := Lib.hid (later bbw35.out hbw36)
        have hzw36 := hbw36.size
        have Vaw36 := Lib.hid (Vaw35.out.step hbw36)
        have Vbw36 := Lib.hid (Vbw35.out.step hbw36)
        have Vuw36 := Lib.hid (Vuw35.out.step hbw36)
        have Vcw36 := Lib.hid (Vcw35.out.step hbw36)
        have Vdw36 := Lib.hid (Vdw35.out.step hbw36)
        have Iuw36 : Hid _ := Lib.hid (Iuw35.out.step hbw36)
        have Icw36 : Hid _ := Lib.hid (Icw35.out.step hbw36)
        have Idw36 : Hid _ := Lib.hid (Idw35.out.step hbw36)
        have Raw36 : Hid _ := Lib.hid (Raw35.out.below hbw36)
        have Rbw36 : Hid _ := Lib.hid (Rbw35.out.below hbw36)
        clear Vaw35
        clear Vbw35
        clear Vuw35
        clear Vcw35
        clear Vdw35
        clear Iuw35
        clear Icw35
        clear Idw35
        clear Raw35
        clear Rbw35
        obtain ⟨law36, caw36_0, faw36_0⟩ := Vaw36.out.open1
        obtain ⟨lbw36, cbw36_0, fbw36_0⟩ := Vbw36.out.open1
        obtain ⟨luw36, cuw36_0, fuw36_0⟩ := Vuw36.out.open1
        obtain ⟨lcw36, ccw36_0, fcw36_0⟩ := Vcw36.out.open1
        obtain ⟨ldw36, cdw36_0, fdw36_0⟩ := Vdw36.out.open1
        have B9 := hbw36
        refine hK.out _ _ ?_ (fun hHeld => ?_)
        · (first | exact ⟨VB.step (hHeld.1) B9, VB.step (hHeld.2.1) B9, VB.step (hHeld.2.2.1) B9, VB.step (hHeld.2.2.2.1) B9, VB.step (hHeld.2.2.2.2) B9⟩ | exact ⟨VB.alloc (hHeld.1) _, VB.alloc (hHeld.2.1) _, VB.alloc (hHeld.2.2.1) _, VB.alloc (hHeld.2.2.2.1) _, VB.alloc (hHeld.2.2.2.2) _⟩ | exact ⟨VB.drew (VB.alloc (show VB w14 _ _ from hHeld.1) _), VB.drew (VB.alloc (show VB w14 _ _ from hHeld.2.1) _), VB.drew (VB.alloc (show VB w14 _ _ from hHeld.2.2.1) _), VB.drew (VB.alloc (show VB w14 _ _ from hHeld.2.2.2.1) _), VB.drew (VB.alloc (show VB w14 _ _ from hHeld.2.2.2.2) _)⟩ | exact ⟨VB.drew Vuw14.out, VB.drew Vcw14.out, VB.drew Vaw14.out, VB.drew Vbw14.out, VB.drew Vdw14.out⟩)
        clear hK K
        try simp only [Act.put, List.setIfInBounds_toArray, List.set_cons_zero, List.set_cons_succ]
        refine readyL (rs := [3]) (by kernel_rfl) (by simp) ?_
        refine AllReadyL.cons (o := ?_) ?_ (fun K hK => ?_) AllReadyL.none_
        rotate_left
        · (simp only [List.getElem?_toArray, List.getElem?_cons_succ, List.getElem?_cons_zero]; rfl)
        go_simp
        go_at_call 29
        ((with_reducible refine (implAreaOf _ _ _ (Pl.commonOf za zb) _ (Recs.arg Icw36.out) rfl (by omega)).mono ?_))
        rw [hC]
        rintro e w37 ⟨rfl, hbw37⟩
        clear law36 caw36_0 faw36_0 lbw36 cbw36_0 fbw36_0 luw36 cuw36_0 fuw36_0 lcw36 ccw36_0 fcw36_0 ldw36 cdw36_0 fdw36_0
        have bbw37 := Lib.hid (later bbw36.out hbw37)
        have hzw37 := hbw37.size
        have Vaw37 := Lib.hid (Vaw36.out.step hbw37)
        have Vbw37 := Lib.hid (Vbw36.out.step hbw37)
        have Vuw37 := Lib.hid (Vuw36.out.step hbw37)
        have Vcw37 := Lib.hid (Vcw36.out.step hbw37)
        have Vdw37 := Lib.hid (Vdw36.out.step hbw37)
        have Iuw37 : Hid _ := Lib.hid (Iuw36.out.step hbw37)
        have Icw37 : Hid _ := Lib.hid (Icw36.out.step hbw37)
        have Idw37 : Hid _ := Lib.hid (Idw36.out.step hbw37)
        have Raw37 : Hid _ := Lib.hid (Raw36.out.below hbw37)
        have Rbw37 : Hid _ := Lib.hid (Rbw36.out.below hbw37)
        clear Vaw36
        clear Vbw36
        clear Vuw36
        clear Vcw36
        clear Vdw36
        clear Iuw36
        clear Icw36
        clear Idw36
        clear Raw36
        clear Rbw36
        obtain ⟨law37, caw37_0, faw37_0⟩ := Vaw37.out.open1
        obtain ⟨lbw37, cbw37_0, fbw37_0⟩ := Vbw37.out.open1
        obtain ⟨luw37, cuw37_0, fuw37_0⟩ := Vuw37.out.open1
        obtain ⟨lcw37, ccw37_0, fcw37_0⟩ := Vcw37.out.open1
        obtain ⟨ldw37, cdw37_0, fdw37_0⟩ := Vdw37.out.open1
        have B9 := hbw37
        refine hK.out _ _ ?_ (fun hHeld => ?_)
        · (first | exact ⟨VB.step (hHeld.1) B9, VB.step (hHeld.2.1) B9, VB.step (hHeld.2.2.1) B9, VB.step (hHeld.2.2.2.1) B9, VB.step (hHeld.2.2.2.2) B9⟩ | exact ⟨VB.alloc (hHeld.1) _, VB.alloc (hHeld.2.1) _, VB.alloc (hHeld.2.2.1) _, VB.alloc (hHeld.2.2.2.1) _, VB.alloc (hHeld.2.2.2.2) _⟩ | exact ⟨VB.drew (VB.alloc (show VB w14 _ _ from hHeld.1) _), VB.drew (VB.alloc (show VB w14 _ _ from hHeld.2.1) _), VB.drew (VB.alloc (show VB w14 _ _ from hHeld.2.2.1) _), VB.drew (VB.alloc (show VB w14 _ _ from hHeld.2.2.2.1) _), VB.drew (VB.alloc (show VB w14 _ _ from hHeld.2.2.2.2) _)⟩ | exact ⟨VB.drew Vuw14.out, VB.drew Vcw14.out, VB.drew Vaw14.out, VB.drew Vbw14.out, VB.drew Vdw14.out⟩)
        clear hK K
        try simp only [Act.put, List.setIfInBounds_toArray, List.set_cons_zero, List.set_cons_succ]
        refine takeL (i := 4) (oi := ?_) (v := ?_) ?_ (by kernel_rfl) (by kernel_rfl) (by kernel_rfl) (by kernel_rfl) ?_ (Or.inl ⟨?_, ?_⟩) (by assumption) ?_
        rotate_left 2
        · (simp only [List.getElem?_toArray, List.getElem?_cons_succ, List.getElem?_cons_zero]; rfl)
        · exact fun _ _ _ h => h
        · rfl
        · (intro w hSw; (try dsimp only at hSw); obtain ⟨S0, S1, S2, S3, S4⟩ := hSw; obtain ⟨l0S, c0S0, _⟩ := S0.open1; obtain ⟨l1S, c1S0, _⟩ := S1.open1; obtain ⟨l2S, c2S0, _⟩ := S2.open1; obtain ⟨l3S, c3S0, _⟩ := S3.open1; obtain ⟨l4S, c4S0, _⟩ := S4.open1; clear S0 S1 S2 S3 S4; go_simp; (try with_reducible rfl))
        try simp only [Act.put, List.setIfInBounds_toArray, List.set_cons_zero, List.set_cons_succ]
        refine readyL (rs := [6]) (by kernel_rfl) (by simp) ?_
        refine AllReadyL.cons (o := ?_) ?_ (fun K hK => ?_) AllReadyL.none_
        rotate_left
        · (simp only [List.getElem?_toArray, List.getElem?_cons_succ, List.getElem?_cons_zero]; rfl)
        go_simp
        go_at_call 29
        ((with_reducible refine (implAreaOf _ _ _ za _ Raw37.out La.out (by omega)).mono ?_))
        rw [hA]
        rintro e w38 ⟨rfl, hbw38⟩
        clear law37 caw37_0 faw37_0 lbw37 cbw37_0 fbw37_0 luw37 cuw37_0 fuw37_0 lcw37 ccw37_0 fcw37_0 ldw37 cdw37_0 fdw37_0
        have bbw38 := Lib.hid (later bbw37.out hbw38)
        have hzw38 := hbw38.size
        have Vaw38 := Lib.hid (Vaw37.out.step hbw38)
        have Vbw38 := Lib.hid (Vbw37.out.step hbw38)
        have Vuw38 := Lib.hid (Vuw37.out.step hbw38)
        have Vcw38 := Lib.hid (Vcw37.out.step hbw38)
        have Vdw38 := Lib.hid (Vdw37.out.step hbw38)
        have Iuw38 : Hid _ := Lib.hid (Iuw37.out.step hbw38)
        have Icw38 : Hid _ := Lib.hid (Icw37.out.step hbw38)
        have Idw38 : Hid _ := Lib.hid (Idw37.out.step hbw38)
        have Raw38 : Hid _ := Lib.hid (Raw37.out.below hbw38)
        have Rbw38 : Hid _ := Lib.hid (Rbw37.out.below hbw38)
        clear Vaw37
        clear Vbw37
        clear Vuw37
        clear Vcw37
        clear Vdw37
        clear Iuw37
        clear Icw37
        clear Idw37
        clear Raw37
        clear Rbw37
        obtain ⟨law38, caw38_0, faw38_0⟩ := Vaw38.out.open1
        obtain ⟨lbw38, cbw38_0, fbw38_0⟩ := Vbw38.out.open1
        obtain ⟨luw38, cuw38_0, fuw38_0⟩ := Vuw38.out.open1
        obtain ⟨lcw38, ccw38_0, fcw38_0⟩ := Vcw38.out.open1
        obtain ⟨ldw38, cdw38_0, fdw38_0⟩ := Vdw38.out.open1
        have B9 := hbw38
        refine hK.out _ _ ?_ (fun hHeld => ?_)
        · (first | exact ⟨VB.step (hHeld.1) B9, VB.step (hHeld.2.1) B9, VB.step (hHeld.2.2.1) B9, VB.step (hHeld.2.2.2.1) B9, VB.step (hHeld.2.2.2.2) B9⟩ | exact ⟨VB.alloc (hHeld.1) _, VB.alloc (hHeld.2.1) _, VB.alloc (hHeld.2.2.1) _, VB.alloc (hHeld.2.2.2.1) _, VB.alloc (hHeld.2.2.2.2) _⟩ | exact ⟨VB.drew (VB.alloc (show VB w14 _ _ from hHeld.1) _), VB.drew (VB.alloc (show VB w14 _ _ from hHeld.2.1) _), VB.drew (VB.alloc (show VB w14 _ _ from hHeld.2.2.1) _), VB.drew (VB.alloc (show VB w14 _ _ from hHeld.2.2.2.1) _), VB.drew (VB.alloc (show VB w14 _ _ from hHeld.2.2.2.2) _)⟩ | exact ⟨VB.drew Vuw14.out, VB.drew Vcw14.out, VB.drew Vaw14.out, VB.drew Vbw14.out, VB.drew Vdw14.out⟩)
        clear hK K
        try simp only [Act.put, List.setIfInBounds_toArray, List.set_cons_zero, List.set_cons_succ]
        refine readyL (rs := [8]) (by kernel_rfl) (by simp) ?_
        refine AllReadyL.cons (o := ?_) ?_ (fun K hK => ?_) AllReadyL.none_
        rotate_left
        · (simp only [List.getElem?_toArray, List.getElem?_cons_succ, List.getElem?_cons_zero]; rfl)
        go_simp
        go_at_call 29
        ((with_reducible refine (implAreaOf _ _ _ zb _ Rbw38.out Lb.out (by omega)).mono ?_))
        rw [hB]
        rintro e w39 ⟨rfl, hbw39⟩
        clear law38 caw38_0 faw38_0 lbw38 cbw38_0 fbw38_0 luw38 cuw38_0 fuw38_0 lcw38 ccw38_0 fcw38_0 ldw38 cdw38_0 fdw38_0
        have bbw39 := Lib.hid (later bbw38.out hbw39)
        have hzw39 := hbw39.size
        have Vaw39 := Lib.hid (Vaw38.out.step hbw39)
        have Vbw39 := Lib.hid (Vbw38.out.step hbw39)
        have Vuw39 := Lib.hid (Vuw38.out.step hbw39)
        have Vcw39 := Lib.hid (Vcw38.out.step hbw39)
        have Vdw39 := Lib.hid (Vdw38.out.step hbw39)
        have Iuw39 : Hid _ := Lib.hid (Iuw38.out.step hbw39)
        have Icw39 : Hid _ := Lib.hid (Icw38.out.step hbw39)
        have Idw39 : Hid _ := Lib.hid (Idw38.out.step hbw39)
        have Raw39 : Hid _ := Lib.hid (Raw38.out.below hbw39)
        have Rbw39 : Hid _ := Lib.hid (Rbw38.out.below hbw39)
        clear Vaw38
        clear Vbw38
        clear Vuw38
        clear Vcw38
        clear Vdw38
        clear Iuw38
        clear Icw38
        clear Idw38
        clear Raw38
        clear Rbw38
        obtain ⟨law39, caw39_0, faw39_0⟩ := Vaw39.out.open1
        obtain ⟨lbw39, cbw39_0, fbw39_0⟩ := Vbw39.out.open1
        obtain ⟨luw39, cuw39_0, fuw39_0⟩ := Vuw39.out.open1
        obtain ⟨lcw39, ccw39_0, fcw39_0⟩ := Vcw39.out.open1
        obtain ⟨ldw39, cdw39_0, fdw39_0⟩ := Vdw39.out.open1
        have B9 := hbw39
        refine hK.out _ _ ?_ (fun hHeld => ?_)
        · (first | exact ⟨VB.step (hHeld.1) B9, VB.step (hHeld.2.1) B9, VB.step (hHeld.2.2.1) B9, VB.step (hHeld.2.2.2.1) B9, VB.step (hHeld.2.2.2.2) B9⟩ | exact ⟨VB.alloc (hHeld.1) _, VB.alloc (hHeld.2.1) _, VB.alloc (hHeld.2.2.1) _, VB.alloc (hHeld.2.2.2.1) _, VB.alloc (hHeld.2.2.2.2) _⟩ | exact ⟨VB.drew (VB.alloc (show VB w14 _ _ from hHeld.1) _), VB.drew (VB.alloc (show VB w14 _ _ from hHeld.2.1) _), VB.drew (VB.alloc (show VB w14 _ _ from hHeld.2.2.1) _), VB.drew (VB.alloc (show VB w14 _ _ from hHeld.2.2.2.1) _), VB.drew (VB.alloc (show VB w14 _ _ from hHeld.2.2.2.2) _)⟩ | exact ⟨VB.drew Vuw14.out, VB.drew Vcw14.out, VB.drew Vaw14.out, VB.drew Vbw14.out, VB.drew Vdw14.out⟩)
        clear hK K
        try simp only [Act.put, List.setIfInBounds_toArray, List.set_cons_zero, List.set_cons_succ]
        refine takeL (i := 9) (oi := ?_) (v := ?_) ?_ (by kernel_rfl) (by kernel_rfl) (by kernel_rfl) (by kernel_rfl) ?_ (Or.inl ⟨?_, ?_⟩) (by assumption) ?_
        rotate_left 2
        · (simp only [List.getElem?_toArray, List.getElem?_cons_succ, List.getElem?_cons_zero]; rfl)
        · exact fun _ _ _ h => h
        · rfl
        · (intro w hSw; (try dsimp only at hSw); obtain ⟨S0, S1, S2, S3, S4⟩ := hSw; obtain ⟨l0S, c0S0, _⟩ := S0.open1; obtain ⟨l1S, c1S0, _⟩ := S1.open1; obtain ⟨l2S, c2S0, _⟩ := S2.open1; obtain ⟨l3S, c3S0, _⟩ := S3.open1; obtain ⟨l4S, c4S0, _⟩ := S4.open1; clear S0 S1 S2 S3 S4; go_simp; (try with_reducible rfl))
        try simp only [Act.put, List.setIfInBounds_toArray, List.set_cons_zero, List.set_cons_succ]
        refine takeL (i := 10) (oi := ?_) (v := ?_) ?_ (by kernel_rfl) (by kernel_rfl) (by kernel_rfl) (by kernel_rfl) ?_ (Or.inl ⟨?_, ?_⟩) (by assumption) ?_
        rotate_left 2
        · (simp only [List.getElem?_toArray, List.getElem?_cons_succ, List.getElem?_cons_zero]; rfl)
        · exact fun _ _ _ h => h
        · rfl
        · (intro w hSw; (try dsimp only at hSw); obtain ⟨S0, S1, S2, S3, S4⟩ := hSw; obtain ⟨l0S, c0S0, _⟩ := S0.open1; obtain ⟨l1S, c1S0, _⟩ := S1.open1; obtain ⟨l2S, c2S0, _⟩ := S2.open1; obtain ⟨l3S, c3S0, _⟩ := S3.open1; obtain ⟨l4S, c4S0, _⟩ := S4.open1; clear S0 S1 S2 S3 S4; go_simp; (try with_reducible rfl))
        try simp only [Act.put, List.setIfInBounds_toArray, List.set_cons_zero, List.set_cons_succ]
        refine takeL (i := 11) (oi := ?_) (v := ?_) ?_ (by kernel_rfl) (by kernel_rfl) (by kernel_rfl) (by kernel_rfl) ?_ (Or.inl ⟨?_, ?_⟩) (by assumption) ?_
        rotate_left 2
        · (simp only [List.getElem?_toArray, List.getElem?_cons_succ, List.getElem?_cons_zero]; rfl)
        · exact fun _ _ _ h => h
        · rfl
        · (intro w hSw; (try dsimp only at hSw); obtain ⟨S0, S1, S2, S3, S4⟩ := hSw; obtain ⟨l0S, c0S0, _⟩ := S0.open1; obtain ⟨l1S, c1S0, _⟩ := S1.open1; obtain ⟨l2S, c2S0, _⟩ := S2.open1; obtain ⟨l3S, c3S0, _⟩ := S3.open1; obtain ⟨l4S, c4S0, _⟩ := S4.open1; clear S0 S1 S2 S3 S4; go_simp; (try with_reducible rfl))
        try simp only [Act.put, List.setIfInBounds_toArray, List.set_cons_zero, List.set_cons_succ]
        refine takeL (i := 12) (oi := ?_) (v := ?_) ?_ (by kernel_rfl) (by kernel_rfl) (by kernel_rfl) (by kernel_rfl) ?_ (Or.inl ⟨?_, ?_⟩) (by assumption) ?_
        rotate_left 2
        · (simp only [List.getElem?_toArray, List.getElem?_cons_succ, List.getElem?_cons_zero]; rfl)
        · exact fun _ _ _ h => h
        · rfl
        · (intro w hSw; (try dsimp only at hSw); obtain ⟨S0, S1, S2, S3, S4⟩ := hSw; obtain ⟨l0S, c0S0, _⟩ := S0.open1; obtain ⟨l1S, c1S0, _⟩ := S1.open1; obtain ⟨l2S, c2S0, _⟩ := S2.open1; obtain ⟨l3S, c3S0, _⟩ := S3.open1; obtain ⟨l4S, c4S0, _⟩ := S4.open1; clear S0 S1 S2 S3 S4; go_simp; (try with_reducible rfl))
        try simp only [Act.put, List.setIfInBounds_toArray, List.set_cons_zero, List.set_cons_succ]
        refine takeL (i := 14) (oi := ?_) (v := ?_) ?_ (by kernel_rfl) (by kernel_rfl) (by kernel_rfl) (by kernel_rfl) ?_ (Or.inl ⟨?_, ?_⟩) (by assumption) ?_
        rotate_left 2
        · (simp only [List.getElem?_toArray, List.getElem?_cons_succ, List.getElem?_cons_zero]; rfl)
        · exact fun _ _ _ h => h
        · rfl
        · (intro w hSw; (try dsimp only at hSw); obtain ⟨S0, S1, S2, S3, S4⟩ := hSw; obtain ⟨l0S, c0S0, _⟩ := S0.open1; obtain ⟨l1S, c1S0, _⟩ := S1.open1; obtain ⟨l2S, c2S0, _⟩ := S2.open1; obtain ⟨l3S, c3S0, _⟩ := S3.open1; obtain ⟨l4S, c4S0, _⟩ := S4.open1; clear S0 S1 S2 S3 S4; go_simp; (try with_reducible rfl))
        try simp only [Act.put, List.setIfInBounds_toArray, List.set_cons_zero, List.set_cons_succ]
        refine takeL (i := 17) (oi := ?_) (v := ?_) ?_ (by kernel_rfl) (by kernel_rfl) (by kernel_rfl) (by kernel_rfl) ?_ (Or.inl ⟨?_, ?_⟩) (by assumption) ?_
        rotate_left 2
        · (simp only [List.getElem?_toArray, List.getElem?_cons_succ, List.getElem?_cons_zero]; rfl)
        · exact fun _ _ _ h => h
        · rfl
        · (intro w hSw; (try dsimp only at hSw); obtain ⟨S0, S1, S2, S3, S4⟩ := hSw; obtain ⟨l0S, c0S0, _⟩ := S0.open1; obtain ⟨l1S, c1S0, _⟩ := S1.open1; obtain ⟨l2S, c2S0, _⟩ := S2.open1; obtain ⟨l3S, c3S0, _⟩ := S3.open1; obtain ⟨l4S, c4S0, _⟩ := S4.open1; clear S0 S1 S2 S3 S4; go_simp; (try with_reducible rfl))
        try simp only [Act.put, List.setIfInBounds_toArray, List.set_cons_zero, List.set_cons_succ]
        refine readyL (rs := [13]) (by kernel_rfl) (by simp) ?_
        refine AllReadyL.cons (o := ?_) ?_ (fun K hK => ?_) AllReadyL.none_
        rotate_left
        · (simp only [List.getElem?_toArray, List.getElem?_cons_succ, List.getElem?_cons_zero]; rfl)
        go_simp
        go_at_call 29
        ((with_reducible refine (implAreaOf _ _ _ (Pl.withoutOf za zb) _ (Recs.arg Idw39.out) rfl (by omega)).mono ?_))
        rw [hD]
        rintro e w40 ⟨rfl, hbw40⟩
        clear law39 caw39_0 faw39_0 lbw39 cbw39_0 fbw39_0 luw39 cuw39_0 fuw39_0 lcw39 ccw39_0 fcw39_0 ldw39 cdw39_0 fdw39_0
        have bbw40 := Lib.hid (later bbw39.out hbw40)
        have hzw40 := hbw40.size
        have Vaw40 := Lib.hid (Vaw39.out.step hbw40)
        have Vbw40 := Lib.hid (Vbw39.out.step hbw40)
        have Vuw40 := Lib.hid (Vuw39.out.step hbw40)
        have Vcw40 := Lib.hid (Vcw39.out.step hbw40)
        have Vdw40 := Lib.hid (Vdw39.out.step hbw40)
        have Iuw40 : Hid _ := Lib.hid (Iuw39.out.step hbw40)
        have Icw40 : Hid _ := Lib.hid (Icw39.out.step hbw40)
        have Idw40 : Hid _ := Lib.hid (Idw39.out.step hbw40)
        have Raw40 : Hid _ := Lib.hid (Raw39.out.below hbw40)
        have Rbw40 : Hid _ := Lib.hid (Rbw39.out.below hbw40)
        clear Vaw39
        clear Vbw39
        clear Vuw39
        clear Vcw39
        clear Vdw39
        clear Iuw39
        clear Icw39
        clear Idw39
        clear Raw39
        clear Rbw39
        obtain ⟨law40, caw40_0, faw40_0⟩ := Vaw40.out.open1
        obtain ⟨lbw40, cbw40_0, fbw40_0⟩ := Vbw40.out.open1
        obtain ⟨luw40, cuw40_0, fuw40_0⟩ := Vuw40.out.open1
        obtain ⟨lcw40, ccw40_0, fcw40_0⟩ := Vcw40.out.open1
        obtain ⟨ldw40, cdw40_0, fdw40_0⟩ := Vdw40.out.open1
        have B9 := hbw40
        refine hK.out _ _ ?_ (fun hHeld => ?_)
        · (first | exact ⟨VB.step (hHeld.1) B9, VB.step (hHeld.2.1) B9, VB.step (hHeld.2.2.1) B9, VB.step (hHeld.2.2.2.1) B9, VB.step (hHeld.2.2.2.2) B9⟩ | exact ⟨VB.alloc (hHeld.1) _, VB.alloc (hHeld.2.1) _, VB.alloc (hHeld.2.2.1) _, VB.alloc (hHeld.2.2.2.1) _, VB.alloc (hHeld.2.2.2.2) _⟩ | exact ⟨VB.drew (VB.alloc (show VB w14 _ _ from hHeld.1) _), VB.drew (VB.alloc (show VB w14 _ _ from hHeld.2.1) _), VB.drew (VB.alloc (show VB w14 _ _ from hHeld.2.2.1) _), VB.drew (VB.alloc (show VB w14 _ _ from hHeld.2.2.2.1) _), VB.drew (VB.alloc (show VB w14 _ _ from hHeld.2.2.2.2) _)⟩ | exact ⟨VB.drew Vuw14.out, VB.drew Vcw14.out, VB.drew Vaw14.out, VB.drew Vbw14.out, VB.drew Vdw14.out⟩)
        clear hK K
        try simp only [Act.put, List.setIfInBounds_toArray, List.set_cons_zero, List.set_cons_succ]
        refine readyL (rs := [15]) (by kernel_rfl) (by simp) ?_
        refine AllReadyL.cons (o := ?_) ?_ (fun K hK => ?_) AllReadyL.none_
        rotate_left
        · (simp only [List.getElem?_toArray, List.getElem?_cons_succ, List.getElem?_cons_zero]; rfl)
        go_simp
        go_at_call 29
        ((with_reducible refine (implAreaOf _ _ _ (Pl.commonOf za zb) _ (Recs.arg Icw40.out) rfl (by omega)).mono ?_))
        rw [hC]
        rintro e w41 ⟨rfl, hbw41⟩
        clear law40 caw40_0 faw40_0 lbw40 cbw40_0 fbw40_0 luw40 cuw40_0 fuw40_0 lcw40 ccw40_0 fcw40_0 ldw40 cdw40_0 fdw40_0
        have bbw41 := Lib.hid (later bbw40.out hbw41)
        have hzw41 := hbw41.size
        have Vaw41 := Lib.hid (Vaw40.out.step hbw41)
        have Vbw41 := Lib.hid (Vbw40.out.step hbw41)
        have Vuw41 := Lib.hid (Vuw40.out.step hbw41)
        have Vcw41 := Lib.hid (Vcw40.out.step hbw41)
        have Vdw41 := Lib.hid (Vdw40.out.step hbw41)
        have Iuw41 : Hid _ := Lib.hid (Iuw40.out.step hbw41)
        have Icw41 : Hid _ := Lib.hid (Icw40.out.step hbw41)
        have Idw41 : Hid _ := Lib.hid (Idw40.out.step hbw41)
        have Raw41 : Hid _ := Lib.hid (Raw40.out.below hbw41)
        have Rbw41 : Hid _ := Lib.hid (Rbw40.out.below hbw41)
        clear Vaw40
        clear Vbw40
        clear Vuw40
        clear Vcw40
        clear Vdw40
        clear Iuw40
        clear Icw40
        clear Idw40
        clear Raw40
        clear Rbw40
        obtain ⟨law41, caw41_0, faw41_0⟩ := Vaw41.out.open1
        obtain ⟨lbw41, cbw41_0, fbw41_0⟩ := Vbw41.out.open1
        obtain ⟨luw41, cuw41_0, fuw41_0⟩ := Vuw41.out.open1
        obtain ⟨lcw41, ccw41_0, fcw41_0⟩ := Vcw41.out.open1
        obtain ⟨ldw41, cdw41_0, fdw41_0⟩ := Vdw41.out.open1
        have B9 := hbw41
        refine hK.out _ _ ?_ (fun hHeld => ?_)
        · (first | exact ⟨VB.step (hHeld.1) B9, VB.step (hHeld.2.1) B9, VB.step (hHeld.2.2.1) B9, VB.step (hHeld.2.2.2.1) B9, VB.step (hHeld.2.2.2.2) B9⟩ | exact ⟨VB.alloc (hHeld.1) _, VB.alloc (hHeld.2.1) _, VB.alloc (hHeld.2.2.1) _, VB.alloc (hHeld.2.2.2.1) _, VB.alloc (hHeld.2.2.2.2) _⟩ | exact ⟨VB.drew (VB.alloc (show VB w14 _ _ from hHeld.1) _), VB.drew (VB.alloc (show VB w14 _ _ from hHeld.2.1) _), VB.drew (VB.alloc (show VB w14 _ _ from hHeld.2.2.1) _), VB.drew (VB.alloc (show VB w14 _ _ from hHeld.2.2.2.1) _), VB.drew (VB.alloc (show VB w14 _ _ from hHeld.2.2.2.2) _)⟩ | exact ⟨VB.drew Vuw14.out, VB.drew Vcw14.out, VB.drew Vaw14.out, VB.drew Vbw14.out, VB.drew Vdw14.out⟩)
        clear hK K
        try simp only [Act.put, List.setIfInBounds_toArray, List.set_cons_zero, List.set_cons_succ]
        refine takeL (i := 16) (oi := ?_) (v := ?_) ?_ (by kernel_rfl) (by kernel_rfl) (by kernel_rfl) (by kernel_rfl) ?_ (Or.inl ⟨?_, ?_⟩) (by assumption) ?_
        rotate_left 2
        · (simp only [List.getElem?_toArray, List.getElem?_cons_succ, List.getElem?_cons_zero]; rfl)
        · exact fun _ _ _ h => h
        · rfl
        · (intro w hSw; (try dsimp only at hSw); obtain ⟨S0, S1, S2, S3, S4⟩ := hSw; obtain ⟨l0S, c0S0, _⟩ := S0.open1; obtain ⟨l1S, c1S0, _⟩ := S1.open1; obtain ⟨l2S, c2S0, _⟩ := S2.open1; obtain ⟨l3S, c3S0, _⟩ := S3.open1; obtain ⟨l4S, c4S0, _⟩ := S4.open1; clear S0 S1 S2 S3 S4; go_simp; (try with_reducible rfl))
        try simp only [Act.put, List.setIfInBounds_toArray, List.set_cons_zero, List.set_cons_succ]
        refine readyL (rs := [18]) (by kernel_rfl) (by simp) ?_
        refine AllReadyL.cons (o := ?_) ?_ (fun K hK => ?_) AllReadyL.none_
        rotate_left
        · (simp only [List.getElem?_toArray, List.getElem?_cons_succ, List.getElem?_cons_zero]; rfl)
        go_simp
        go_at_call 29
        ((with_reducible refine (implAreaOf _ _ _ za _ Raw41.out La.out (by omega)).mono ?_))
        rw [hA]
        rintro e w42 ⟨rfl, hbw42⟩
        clear law41 caw41_0 faw41_0 lbw41 cbw41_0 fbw41_0 luw41 cuw41_0 fuw41_0 lcw41 ccw41_0 fcw41_0 ldw41 cdw41_0 fdw41_0
        have bbw42 := Lib.hid (later bbw41.out hbw42)
        have hzw42 := hbw42.size
        have Vaw42 := Lib.hid (Vaw41.out.step hbw42)
        have Vbw42 := Lib.hid (Vbw41.out.step hbw42)
        have Vuw42 := Lib.hid (Vuw41.out.step hbw42)
        have Vcw42 := Lib.hid (Vcw41.out.step hbw42)
        have Vdw42 := Lib.hid (Vdw41.out.step hbw42)
        have Iuw42 : Hid _ := Lib.hid (Iuw41.out.step hbw42)
        have Icw42 : Hid _ := Lib.hid (Icw41.out.step hbw42)
        have Idw42 : Hid _ := Lib.hid (Idw41.out.step hbw42)
        have Raw42 : Hid _ := Lib.hid (Raw41.out.below hbw42)
        have Rbw42 : Hid _ := Lib.hid (Rbw41.out.below hbw42)
        clear Vaw41
        clear Vbw41
        clear Vuw41
        clear Vcw41
        clear Vdw41
        clear Iuw41
        clear Icw41
        clear Idw41
        clear Raw41
        clear Rbw41
        obtain ⟨law42, caw42_0, faw42_0⟩ := Vaw42.out.open1
        obtain ⟨lbw42, cbw42_0, fbw42_0⟩ := Vbw42.out.open1
        obtain ⟨luw42, cuw42_0, fuw42_0⟩ := Vuw42.out.open1
        obtain ⟨lcw42, ccw42_0, fcw42_0⟩ := Vcw42.out.open1
        obtain ⟨ldw42, cdw42_0, fdw42_0⟩ := Vdw42.out.open1
        have B9 := hbw42
        refine hK.out _ _ ?_ (fun hHeld => ?_)
        · (first | exact ⟨VB.step (hHeld.1) B9, VB.step (hHeld.2.1) B9, VB.step (hHeld.2.2.1) B9, VB.step (hHeld.2.2.2.1) B9, VB.step (hHeld.2.2.2.2) B9⟩ | exact ⟨VB.alloc (hHeld.1) _, VB.alloc (hHeld.2.1) _, VB.alloc (hHeld.2.2.1) _, VB.alloc (hHeld.2.2.2.1) _, VB.alloc (hHeld.2.2.2.2) _⟩ | exact ⟨VB.drew (VB.alloc (show VB w14 _ _ from hHeld.1) _), VB.drew (VB.alloc (show VB w14 _ _ from hHeld.2.1) _), VB.drew (VB.alloc (show VB w14 _ _ from hHeld.2.2.1) _), VB.drew (VB.alloc (show VB w14 _ _ from hHeld.2.2.2.1) _), VB.drew (VB.alloc (show VB w14 _ _ from hHeld.2.2.2.2) _)⟩ | exact ⟨VB.drew Vuw14.out, VB.drew Vcw14.out, VB.drew Vaw14.out, VB.drew Vbw14.out, VB.drew Vdw14.out⟩)
        clear hK K
        try simp only [Act.put, List.setIfInBounds_toArray, List.set_cons_zero, List.set_cons_succ]
        refine takeL (i := 19) (oi := ?_) (v := ?_) ?_ (by kernel_rfl) (by kernel_rfl) (by kernel_rfl) (by kernel_rfl) ?_ (Or.inl ⟨?_, ?_⟩) (by assumption) ?_
        rotate_left 2
        · (simp only [List.getElem?_toArray, List.getElem?_cons_succ, List.getElem?_cons_zero]; rfl)
        · exact fun _ _ _ h => h
        · rfl
        · (intro w hSw; (try dsimp only at hSw); obtain ⟨S0, S1, S2, S3, S4⟩ := hSw; obtain ⟨l0S, c0S0, _⟩ := S0.open1; obtain ⟨l1S, c1S0, _⟩ := S1.open1; obtain ⟨l2S, c2S0, _⟩ := S2.open1; obtain ⟨l3S, c3S0, _⟩ := S3.open1; obtain ⟨l4S, c4S0, _⟩ := S4.open1; clear S0 S1 S2 S3 S4; go_simp; (try with_reducible rfl))
        try simp only [Act.put, List.setIfInBounds_toArray, List.set_cons_zero, List.set_cons_succ]
        refine takeL (i := 20) (oi := ?_) (v := ?_) ?_ (by kernel_rfl) (by kernel_rfl) (by kernel_rfl) (by kernel_rfl) ?_ (Or.inl ⟨?_, ?_⟩) (by assumption) ?_
        rotate_left 2
        · (simp only [List.getElem?_toArray, List.getElem?_cons_succ, List.getElem?_cons_zero]; rfl)
        · exact fun _ _ _ h => h
        · rfl
        · (intro w hSw; (try dsimp only at hSw); obtain ⟨S0, S1, S2, S3, S4⟩ := hSw; obtain ⟨l0S, c0S0, _⟩ := S0.open1; obtain ⟨l1S, c1S0, _⟩ := S1.open1; obtain ⟨l2S, c2S0, _⟩ := S2.open1; obtain ⟨l3S, c3S0, _⟩ := S3.open1; obtain ⟨l4S, c4S0, _⟩ := S4.open1; clear S0 S1 S2 S3 S4; go_simp; (try with_reducible rfl))
        try simp only [Act.put, List.setIfInBounds_toArray, List.set_cons_zero, List.set_cons_succ]
        refine takeL (i := 21) (oi := ?_) (v := ?_) ?_ (by kernel_rfl) (by kernel_rfl) (by kernel_rfl) (by kernel_rfl) ?_ (Or.inl ⟨?_, ?_⟩) (by assumption) ?_
        rotate_left 2
        · (simp only [List.getElem?_toArray, List.getElem?_cons_succ, List.getElem?_cons_zero]; rfl)
        · exact fun _ _ _ h => h
        · rfl
        · (intro w hSw; (try dsimp only at hSw); obtain ⟨S0, S1, S2, S3, S4⟩ := hSw; obtain ⟨l0S, c0S0, _⟩ := S0.open1; obtain ⟨l1S, c1S0, _⟩ := S1.open1; obtain ⟨l2S, c2S0, _⟩ := S2.open1; obtain ⟨l3S, c3S0, _⟩ := S3.open1; obtain ⟨l4S, c4S0, _⟩ := S4.open1; clear S0 S1 S2 S3 S4; go_simp; (try with_reducible rfl))
        try simp only [Act.put, List.setIfInBounds_toArray, List.set_cons_zero, List.set_cons_succ]
        refine doneL (by kernel_rfl) ?_ _
        go_wp2_with fail
        go_ret
        exact ⟨rfl, bbw42.out⟩
end Go.Proofs.Ytlnailpefdlnnaa
