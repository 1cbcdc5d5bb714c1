/- The law FnRegionForms: it returns true. -/
import Derived.Test.YtlnailpefdlnnaaRegLaw2
import Derived.Test.YtlnailpefdlnnaaAppR
import Derived.Test.YtlnailpefdlnnaaDrR3
import Derived.Test.YtlnailpefdlnnaaAt
import Derived.Test.YtlnailpefdlnnaaCov
import Derived.BigQuiet
import Derived.Deep.Cut
import Derived.Deep.DeepCutAuto
import Derived.Test.YtlnailpefdlnnaaOrd
namespace Go.Proofs.Ytlnailpefdlnnaa
open Go.RowKit
set_option linter.unusedVariables false
set_option linter.unusedSimpArgs false
theorem isRow_below {w w' : World} {a : Option Addr} {len cap : Nat} {zs : List Int} (h : IsRow .u8 w a len cap zs) (hb : Below w.heap.size w w') : IsRow .u8 w' a len cap zs := isRow_keep h fun x hx hc => hb.block _ (isRow_lt h x hx hc)
theorem isRow_len2 {w : World} {a : Option Addr} {len cap : Nat} {zs : List Int} (hr : IsRow .u8 w a len cap zs) : len ≤ 9223372036854775807 := by
  rcases hr with ⟨_, rfl, _⟩ | ⟨x, _, h1, h2, _⟩
  · omega
  · unfold maxLen at h2; omega
theorem sameRects_same (A1 A2 : Option Addr) (n m c1 c2 : Nat) (zs : List Pl.R) (w : World) (H1 : RArg w A1 zs) (H2 : RArg w A2 zs) (L1 : zs.length = n) (L2 : zs.length = m) (b1 : n ≤ 9223372036854775807) (b2 : m ≤ 9223372036854775807) :
    Calls Try.prog 43 #[.slice A1 n c1, .slice A2 m c2] w fun e w' => e = .returned (.bool true) ∧ Below w.heap.size w w' := by
  have h := sameRects_any A1 A2 n m c1 c2 zs zs w H1 H2 L1 L2 b1 b2
  simpa using h
theorem size_setCell_eq (w : World) (a : Addr) (v : Value) : (w.setCell a v).heap.size = w.heap.size := by simp [World.setCell]
/-- A new variable that holds a region. -/
def NewVarR (J wx : World) (b : Nat) (rs : List Pl.R) : Prop :=
  ∃ (A : Option Addr) (c lo hi : Nat), J.heap.size ≤ b ∧ J.heap.size ≤ lo ∧ hi ≤ wx.heap.size ∧ (b < lo ∨ hi ≤ b) ∧ VB wx b [.slice A rs.length c] ∧ Recs wx lo hi (.slice A rs.length c) rs ∧ Below J.heap.size J wx
set_option maxRecDepth 100000 in
set_option maxHeartbeats 8000000 in
theorem walkFnRegionForms (a : Option Addr) (len cap : Nat) (z : List Int) (w : World) (hr : IsRow .u8 w a len cap z) : Calls Try.prog 12 #[.slice a len cap] w fun e w' => e = .returned (.bool true) ∧ Below w.heap.size w w' := by
  have hl := isRow_len2 hr
  by_cases hbig : 1048576 < len
  · go_enter Try.func12, Try.ntmps12
    go_wp2_with fail
    refine (big_any _ _ _ _ hl).mono ?_
    rintro e w' ⟨rfl, rfl⟩
    go_wp2_with fail
    go_ret
    exact ⟨rfl, Below.refl _ _⟩
  have HR := Lib.hid hr
  clear hr
  have bbw : Hid (Below w.heap.size w w) := Lib.hid (Below.refl _ _)
  go_enter Try.func12, Try.ntmps12
  go_wp2_with fail
  refine (big_any _ _ _ _ hl).mono ?_
  rintro e w' ⟨rfl, rfl⟩
  go_wp2_with fail
  refine (drawRegions a len cap z _ HR.out (by omega)).mono ?_
  rintro e w1 ⟨L, M, Aa, Ab, ca, cb, rfl, ra, rb, hbw1⟩
  have Raw1 := Lib.hid ra
  have Rbw1 := Lib.hid rb
  clear ra rb
  have oka := Pl.regionOf_ok L
  have okb := Pl.regionOf_ok M
  have ha256 := Pl.regionOf_length L
  have hb256 := Pl.regionOf_length M
  generalize Pl.regionOf L = za at *
  generalize Pl.regionOf M = zb at *
  generalize hna : za.length = na at *
  generalize hnb : zb.length = nb at *
  have La := Lib.hid hna
  have Lb := Lib.hid hnb
  clear hna hnb
  have bbw1 := Lib.hid (later bbw.out hbw1)
  go_wp2_with fail
  have hsplit := Pl.form_split oka okb
  have happ := Pl.form_append oka okb
  have hcomm := Pl.form_comm oka okb
  have hnone := Pl.form_none oka
  have okw := Pl.unionOf_good oka okb
  have hu256 := Pl.unionOf_length za zb
  have hw256 := Pl.withoutOf_length za zb
  have hc256 := Pl.commonOf_length za zb
  have hZ256 : za.length ≤ 256 := by rw [La.out]; exact ha256
  have HF := fun w A n c => field_region w A n c
  have Vaw2 := Lib.hid ((VB.new (w := w1) (b := w1.heap.size) (t := 29) (cs := [.slice Aa na ca]) (by simp)).alloc (.cells #[.slice Ab nb cb] 29 (0, 0)))
  have Vbw2 := Lib.hid (VB.new (w := (w1.alloc (.cells #[.slice Aa na ca] 29 (0, 0)))) (b := w1.heap.size + 1) (t := 29) (cs := [.slice Ab nb cb]) (by simp))
  have hbw2 : Below w1.heap.size w1 ((w1.alloc (.cells #[.slice Aa na ca] 29 (0, 0))).alloc (.cells #[.slice Ab nb cb] 29 (0, 0))) := by go_grown
  have bbw2 : Hid (Below w.heap.size w ((w1.alloc (.cells #[.slice Aa na ca] 29 (0, 0))).alloc (.cells #[.slice Ab nb cb] 29 (0, 0)))) := Lib.hid (later bbw1.out hbw2)
  have hzw2 : w1.heap.size + 2 ≤ ((w1.alloc (.cells #[.slice Aa na ca] 29 (0, 0))).alloc (.cells #[.slice Ab nb cb] 29 (0, 0))).heap.size := by simp
  have Raw2 : Hid _ := Lib.hid (Raw1.out.below hbw2)
  have Rbw2 : Hid _ := Lib.hid (Rbw1.out.below hbw2)
  generalize ((w1.alloc (.cells #[.slice Aa na ca] 29 (0, 0))).alloc (.cells #[.slice Ab nb cb] 29 (0, 0))) = w2 at *
  obtain ⟨law2, caw2_0, faw2_0⟩ := Vaw2.out.open1
  obtain ⟨lbw2, cbw2_0, fbw2_0⟩ := Vbw2.out.open1
  go_cut [5] (fun s5 wx => ∃ b : Nat, s5 = .pointer (some ⟨b, 0, none⟩) ∧ NewVarR w2 wx b za)
  case first =>
    clear law2 caw2_0 faw2_0 lbw2 cbw2_0 fbw2_0
    have bbw3 : Hid (Below w.heap.size w w2.drew) := Lib.hid (Below.drew bbw2.out)
    have bjw3 : Hid (Below w2.heap.size w2 w2.drew) := Lib.hid (Below.drew (Below.refl _ _))
    have hzw3 : w2.heap.size ≤ w2.drew.heap.size := Nat.le_refl _
    have Vaw3 := Lib.hid (VB.drew Vaw2.out)
    have Vbw3 := Lib.hid (VB.drew Vbw2.out)
    have Raw3 : Hid _ := Lib.hid (show RArg w2.drew _ _ from Raw2.out)
    have Rbw3 : Hid _ := Lib.hid (show RArg w2.drew _ _ from Rbw2.out)
    refine regionL (S := (fun w' => VB w' (w1.heap.size) [.slice Aa na ca] ∧ VB w' (w1.heap.size + 1) [.slice Ab nb cb])) (L := 8) (by kernel_rfl) ?_ (fun hHeld => ?_)
    · (first | exact ⟨VB.step (hHeld.1) B9, VB.step (hHeld.2) B9⟩ | exact ⟨VB.drew Vaw2.out, VB.drew Vbw2.out⟩)
    refine takeL (i := 0) (oi := ?_) (v := ?_) ?_ (by kernel_rfl) (by kernel_rfl) (by kernel_rfl) (by kernel_rfl) ?_ (Or.inl ⟨?_, ?_⟩) (by assumption) ?_
    rotate_left 2
    · (simp only [List.getElem?_toArray, List.getElem?_cons_succ, List.getElem?_cons_zero]; rfl)
    · exact fun _ _ _ h => h
    · rfl
    · (intro w hSw; (try dsimp only at hSw); obtain ⟨S0, S1⟩ := hSw; obtain ⟨l0S, c0S0, _⟩ := S0.open1; obtain ⟨l1S, c1S0, _⟩ := S1.open1; clear S0 S1; go_simp; (try with_reducible rfl))
    try simp only [Act.put, List.setIfInBounds_toArray, List.set_cons_zero, List.set_cons_succ]
    refine takeL (i := 1) (oi := ?_) (v := ?_) ?_ (by kernel_rfl) (by kernel_rfl) (by kernel_rfl) (by kernel_rfl) ?_ (Or.inl ⟨?_, ?_⟩) (by assumption) ?_
    rotate_left 2
    · (simp only [List.getElem?_toArray, List.getElem?_cons_succ, List.getElem?_cons_zero]; rfl)
    · exact fun _ _ _ h => h
    · rfl
    · (intro w hSw; (try dsimp only at hSw); obtain ⟨S0, S1⟩ := hSw; obtain ⟨l0S, c0S0, _⟩ := S0.open1; obtain ⟨l1S, c1S0, _⟩ := S1.open1; clear S0 S1; go_simp; (try with_reducible rfl))
    try simp only [Act.put, List.setIfInBounds_toArray, List.set_cons_zero, List.set_cons_succ]
    refine takeL (i := 3) (oi := ?_) (v := ?_) ?_ (by kernel_rfl) (by kernel_rfl) (by kernel_rfl) (by kernel_rfl) ?_ (Or.inl ⟨?_, ?_⟩) (by assumption) ?_
    rotate_left 2
    · (simp only [List.getElem?_toArray, List.getElem?_cons_succ, List.getElem?_cons_zero]; rfl)
    · exact fun _ _ _ h => h
    · rfl
    · (intro w hSw; (try dsimp only at hSw); obtain ⟨S0, S1⟩ := hSw; obtain ⟨l0S, c0S0, _⟩ := S0.open1; obtain ⟨l1S, c1S0, _⟩ := S1.open1; clear S0 S1; go_simp; (try with_reducible rfl))
    try simp only [Act.put, List.setIfInBounds_toArray, List.set_cons_zero, List.set_cons_succ]
    refine takeL (i := 4) (oi := ?_) (v := ?_) ?_ (by kernel_rfl) (by kernel_rfl) (by kernel_rfl) (by kernel_rfl) ?_ (Or.inl ⟨?_, ?_⟩) (by assumption) ?_
    rotate_left 2
    · (simp only [List.getElem?_toArray, List.getElem?_cons_succ, List.getElem?_cons_zero]; rfl)
    · exact fun _ _ _ h => h
    · rfl
    · (intro w hSw; (try dsimp only at hSw); obtain ⟨S0, S1⟩ := hSw; obtain ⟨l0S, c0S0, _⟩ := S0.open1; obtain ⟨l1S, c1S0, _⟩ := S1.open1; clear S0 S1; go_simp; (try with_reducible rfl))
    try simp only [Act.put, List.setIfInBounds_toArray, List.set_cons_zero, List.set_cons_succ]
    refine readyL (rs := [2, 7]) (by kernel_rfl) (by simp) ?_
    refine AllReadyL.cons (o := ?_) ?_ (fun K hK => ?_) ?_
    rotate_left
    · (simp only [List.getElem?_toArray, List.getElem?_cons_succ, List.getElem?_cons_zero]; rfl)
    · go_simp
      go_at_call 38
      ((with_reducible refine (implWithoutOf _ _ _ _ _ _ za zb _ Raw3.out Rbw3.out La.out Lb.out (by omega) (by omega)).mono ?_))
      rintro e w4 ⟨Aw4, kw4, rfl, Ow4, hbw4⟩
      have Pw4 := Lib.hid Ow4
      clear Ow4
      have bbw4 := Lib.hid (later bbw3.out hbw4)
      have hzw4 := hbw4.size
      have Vaw4 := Lib.hid (Vaw3.out.step hbw4)
      have Vbw4 := Lib.hid (Vbw3.out.step hbw4)
      have Raw4 : Hid _ := Lib.hid (Raw3.out.below hbw4)
      have Rbw4 : Hid _ := Lib.hid (Rbw3.out.below hbw4)
      clear Vaw3
      clear Vbw3
      clear Raw3
      clear Rbw3
      obtain ⟨law4, caw4_0, faw4_0⟩ := Vaw4.out.open1
      obtain ⟨lbw4, cbw4_0, fbw4_0⟩ := Vbw4.out.open1
      have Ipw4 := Pw4
      clear Pw4
      have bjw4 := Lib.hid (later bjw3.out hbw4)
      have B9 := hbw4
      refine hK.out _ _ ?_ (fun hHeld => ?_)
      · (first | exact ⟨VB.step (hHeld.1) B9, VB.step (hHeld.2) B9⟩ | exact ⟨VB.drew Vaw2.out, VB.drew Vbw2.out⟩)
      clear hK K
      try simp only [Act.put, List.setIfInBounds_toArray, List.set_cons_zero, List.set_cons_succ]
      refine readyL (rs := [5, 7]) (by kernel_rfl) (by simp) ?_
      refine AllReadyL.cons (o := ?_) ?_ (fun K hK => ?_) ?_
      rotate_left
      · (simp only [List.getElem?_toArray, List.getElem?_cons_succ, List.getElem?_cons_zero]; rfl)
      · go_simp
        go_at_call 36
        ((with_reducible refine (implCommonOf _ _ _ _ _ _ za zb _ Raw4.out Rbw4.out La.out Lb.out (by omega) (by omega)).mono ?_))
        rintro e w5 ⟨Aw5, kw5, rfl, Ow5, hbw5⟩
        have Pw5 := Lib.hid Ow5
        clear Ow5
        clear law4 caw4_0 faw4_0 lbw4 cbw4_0 fbw4_0
        have bbw5 := Lib.hid (later bbw4.out hbw5)
        have hzw5 := hbw5.size
        have Vaw5 := Lib.hid (Vaw4.out.step hbw5)
        have Vbw5 := Lib.hid (Vbw4.out.step hbw5)
        have Ipw5 : Hid _ := Lib.hid (Ipw4.out.step hbw5)
        have Raw5 : Hid _ := Lib.hid (Raw4.out.below hbw5)
        have Rbw5 : Hid _ := Lib.hid (Rbw4.out.below hbw5)
        clear Vaw4
        clear Vbw4
        clear Ipw4
        clear Raw4
        clear Rbw4
        obtain ⟨law5, caw5_0, faw5_0⟩ := Vaw5.out.open1
        obtain ⟨lbw5, cbw5_0, fbw5_0⟩ := Vbw5.out.open1
        have Iqw5 := Pw5
        clear Pw5
        have bjw5 := Lib.hid (later bjw4.out hbw5)
        have B9 := hbw5
        refine hK.out _ _ ?_ (fun hHeld => ?_)
        · (first | exact ⟨VB.step (hHeld.1) B9, VB.step (hHeld.2) B9⟩ | exact ⟨VB.drew Vaw2.out, VB.drew Vbw2.out⟩)
        clear hK K
        try simp only [Act.put, List.setIfInBounds_toArray, List.set_cons_zero, List.set_cons_succ]
        refine readyL (rs := [6, 7]) (by kernel_rfl) (by simp) ?_
        refine AllReadyL.cons (o := ?_) ?_ (fun K hK => ?_) ?_
        rotate_left
        · (simp only [List.getElem?_toArray, List.getElem?_cons_succ, List.getElem?_cons_zero]; rfl)
        · go_simp
          go_at_call 34
          ((with_reducible refine (implUnionOf _ _ _ _ _ _ (Pl.withoutOf za zb) (Pl.commonOf za zb) _ (Recs.arg Ipw5.out) (Recs.arg Iqw5.out) rfl rfl (by omega) (by omega)).mono ?_))
          rw [hsplit]
          rintro e w6 ⟨Aw6, kw6, rfl, Ow6, hbw6⟩
          have Pw6 := Lib.hid Ow6
          clear Ow6
          clear law5 caw5_0 faw5_0 lbw5 cbw5_0 fbw5_0
          have bbw6 := Lib.hid (later bbw5.out hbw6)
          have hzw6 := hbw6.size
          have Vaw6 := Lib.hid (Vaw5.out.step hbw6)
          have Vbw6 := Lib.hid (Vbw5.out.step hbw6)
          have Ipw6 : Hid _ := Lib.hid (Ipw5.out.step hbw6)
          have Iqw6 : Hid _ := Lib.hid (Iqw5.out.step hbw6)
          have Raw6 : Hid _ := Lib.hid (Raw5.out.below hbw6)
          have Rbw6 : Hid _ := Lib.hid (Rbw5.out.below hbw6)
          clear Vaw5
          clear Vbw5
          clear Ipw5
          clear Iqw5
          clear Raw5
          clear Rbw5
          obtain ⟨law6, caw6_0, faw6_0⟩ := Vaw6.out.open1
          obtain ⟨lbw6, cbw6_0, fbw6_0⟩ := Vbw6.out.open1
          have Iu'w6 := Pw6
          clear Pw6
          have bjw6 := Lib.hid (later bjw5.out hbw6)
          have B9 := hbw6
          refine hK.out _ _ ?_ (fun hHeld => ?_)
          · (first | exact ⟨VB.step (hHeld.1) B9, VB.step (hHeld.2) B9⟩ | exact ⟨VB.drew Vaw2.out, VB.drew Vbw2.out⟩)
          clear hK K
          try simp only [Act.put, List.setIfInBounds_toArray, List.set_cons_zero, List.set_cons_succ]
          refine readyL (rs := [7]) (by kernel_rfl) (by simp) ?_
          refine AllReadyL.cons (o := ?_) ?_ (fun K hK => ?_) AllReadyL.none_
          rotate_left
          · (simp only [List.getElem?_toArray, List.getElem?_cons_succ, List.getElem?_cons_zero]; rfl)
          go_simp
          have hbw7 : Below (w6).heap.size (w6) (w6.alloc (.cells #[.slice none 0 0] 29 (0, 0))) := by first | exact (Below.refl _ _).alloc (Nat.le_refl _) _ | exact (show Below (w2.drew).heap.size w2.drew (w2.drew.alloc (.cells #[.slice none 0 0] 29 (0, 0))) from (Below.refl _ _).alloc (Nat.le_refl _) _)
          have haw7 : w2.heap.size ≤ w6.heap.size := bjw6.out.size
          have hyw7 : (w6).heap.size < (w6.alloc (.cells #[.slice none 0 0] 29 (0, 0))).heap.size := by simp
          have Zw7 : Hid (VB (w6.alloc (.cells #[.slice none 0 0] 29 (0, 0))) (w6.heap.size) [.slice none 0 0]) := Lib.hid (by first | exact VB.new (cs := [.slice none 0 0]) rfl | exact VB.drew (VB.new (cs := [.slice none 0 0]) rfl))
          generalize (w6.alloc (.cells #[.slice none 0 0] 29 (0, 0))) = w7 at *
          clear law6 caw6_0 faw6_0 lbw6 cbw6_0 fbw6_0
          have bbw7 := Lib.hid (later bbw6.out hbw7)
          have hzw7 := hbw7.size
          have Vaw7 := Lib.hid (Vaw6.out.step hbw7)
          have Vbw7 := Lib.hid (Vbw6.out.step hbw7)
          have Ipw7 : Hid _ := Lib.hid (Ipw6.out.step hbw7)
          have Iqw7 : Hid _ := Lib.hid (Iqw6.out.step hbw7)
          have Iu'w7 : Hid _ := Lib.hid (Iu'w6.out.step hbw7)
          have Raw7 : Hid _ := Lib.hid (Raw6.out.below hbw7)
          have Rbw7 : Hid _ := Lib.hid (Rbw6.out.below hbw7)
          clear Vaw6
          clear Vbw6
          clear Ipw6
          clear Iqw6
          clear Iu'w6
          clear Raw6
          clear Rbw6
          obtain ⟨law7, caw7_0, faw7_0⟩ := Vaw7.out.open1
          obtain ⟨lbw7, cbw7_0, fbw7_0⟩ := Vbw7.out.open1
          have bjw7 := Lib.hid (later bjw6.out hbw7)
          clear law7 caw7_0 faw7_0 lbw7 cbw7_0 fbw7_0
          have Vuw7 := Zw7
          obtain ⟨law7, caw7_0, faw7_0⟩ := Vaw7.out.open1
          obtain ⟨lbw7, cbw7_0, fbw7_0⟩ := Vbw7.out.open1
          obtain ⟨luw7, cuw7_0, fuw7_0⟩ := Vuw7.out.open1
          have B9 := hbw7
          refine hK.out _ _ ?_ (fun hHeld => ?_)
          · (first | exact ⟨VB.step (hHeld.1) B9, VB.step (hHeld.2) B9⟩ | exact ⟨VB.drew Vaw2.out, VB.drew Vbw2.out⟩)
          clear hK K
          try simp only [Act.put, List.setIfInBounds_toArray, List.set_cons_zero, List.set_cons_succ]
          refine readyL (rs := [8]) (by kernel_rfl) (by simp) ?_
          refine AllReadyL.last (o := ?_) ?_ (fun K hK => ?_)
          rotate_left
          · (simp only [List.getElem?_toArray, List.getElem?_cons_succ, List.getElem?_cons_zero]; rfl)
          go_simp
          refine hK.out _ _ ?_
          clear hK K
          try simp only [Act.put, List.setIfInBounds_toArray, List.set_cons_zero, List.set_cons_succ]
          refine doneL (by kernel_rfl) ?_ _
          go_wp2_with fail
          go_meet
          have e1 : w2.heap.size ≤ w5.heap.size := bjw5.out.size
          have e2 : w6.heap.size ≤ w7.heap.size := Iu'w7.out.hi_le
          case rel => exact ⟨w6.heap.size, rfl, Aw6, kw6, w5.heap.size, w6.heap.size, by omega, e1, Nat.le_trans e2 (Nat.le_of_eq (size_setCell_eq _ _ _).symm), by omega, Vuw7.out.set 0 _, Own.far (p := ⟨w6.heap.size, 0, none⟩) Iu'w7.out (by show w6.heap.size < _ ∨ _ ≤ w6.heap.size; omega) _, bjw7.out.setCell (by show w2.heap.size ≤ w6.heap.size; omega) _⟩
        refine AllReadyL.cons (o := ?_) ?_ (fun K hK => ?_) ?_
        rotate_left
        · (simp only [List.getElem?_toArray, List.getElem?_cons_succ, List.getElem?_cons_zero]; rfl)
        · go_simp
          have hbw8 : Below (w5).heap.size (w5) (w5.alloc (.cells #[.slice none 0 0] 29 (0, 0))) := by first | exact (Below.refl _ _).alloc (Nat.le_refl _) _ | exact (show Below (w2.drew).heap.size w2.drew (w2.drew.alloc (.cells #[.slice none 0 0] 29 (0, 0))) from (Below.refl _ _).alloc (Nat.le_refl _) _)
          have haw8 : w2.heap.size ≤ w5.heap.size := bjw5.out.size
          have hyw8 : (w5).heap.size < (w5.alloc (.cells #[.slice none 0 0] 29 (0, 0))).heap.size := by simp
          have Zw8 : Hid (VB (w5.alloc (.cells #[.slice none 0 0] 29 (0, 0))) (w5.heap.size) [.slice none 0 0]) := Lib.hid (by first | exact VB.new (cs := [.slice none 0 0]) rfl | exact VB.drew (VB.new (cs := [.slice none 0 0]) rfl))
          generalize (w5.alloc (.cells #[.slice none 0 0] 29 (0, 0))) = w8 at *
          clear law5 caw5_0 faw5_0 lbw5 cbw5_0 fbw5_0
          have bbw8 := Lib.hid (later bbw5.out hbw8)
          have hzw8 := hbw8.size
          have Vaw8 := Lib.hid (Vaw5.out.step hbw8)
          have Vbw8 := Lib.hid (Vbw5.out.step hbw8)
          have Ipw8 : Hid _ := Lib.hid (Ipw5.out.step hbw8)
          have Iqw8 : Hid _ := Lib.hid (Iqw5.out.step hbw8)
          have Raw8 : Hid _ := Lib.hid (Raw5.out.below hbw8)
          have Rbw8 : Hid _ := Lib.hid (Rbw5.out.below hbw8)
          clear Vaw5
          clear Vbw5
          clear Ipw5
          clear Iqw5
          clear Raw5
          clear Rbw5
          obtain ⟨law8, caw8_0, faw8_0⟩ := Vaw8.out.open1
          obtain ⟨lbw8, cbw8_0, fbw8_0⟩ := Vbw8.out.open1
          have bjw8 := Lib.hid (later bjw5.out hbw8)
          clear law8 caw8_0 faw8_0 lbw8 cbw8_0 fbw8_0
          have Vuw8 := Zw8
          obtain ⟨law8, caw8_0, faw8_0⟩ := Vaw8.out.open1
          obtain ⟨lbw8, cbw8_0, fbw8_0⟩ := Vbw8.out.open1
          obtain ⟨luw8, cuw8_0, fuw8_0⟩ := Vuw8.out.open1
          have B9 := hbw8
          refine hK.out _ _ ?_ (fun hHeld => ?_)
          · (first | exact ⟨VB.step (hHeld.1) B9, VB.step (hHeld.2) B9⟩ | exact ⟨VB.drew Vaw2.out, VB.drew Vbw2.out⟩)
          clear hK K
          try simp only [Act.put, List.setIfInBounds_toArray, List.set_cons_zero, List.set_cons_succ]
          refine readyL (rs := [6]) (by kernel_rfl) (by simp) ?_
          refine AllReadyL.cons (o := ?_) ?_ (fun K hK => ?_) AllReadyL.none_
          rotate_left
          · (simp only [List.getElem?_toArray, List.getElem?_cons_succ, List.getElem?_cons_zero]; rfl)
          go_simp
          go_at_call 34
          ((with_reducible refine (implUnionOf _ _ _ _ _ _ (Pl.withoutOf za zb) (Pl.commonOf za zb) _ (Recs.arg Ipw8.out) (Recs.arg Iqw8.out) rfl rfl (by omega) (by omega)).mono ?_))
          rw [hsplit]
          rintro e w9 ⟨Aw9, kw9, rfl, Ow9, hbw9⟩
          have Pw9 := Lib.hid Ow9
          clear Ow9
          clear law8 caw8_0 faw8_0 lbw8 cbw8_0 fbw8_0 luw8 cuw8_0 fuw8_0
          have bbw9 := Lib.hid (later bbw8.out hbw9)
          have hzw9 := hbw9.size
          have Vaw9 := Lib.hid (Vaw8.out.step hbw9)
          have Vbw9 := Lib.hid (Vbw8.out.step hbw9)
          have Vuw9 := Lib.hid (Vuw8.out.step hbw9)
          have Ipw9 : Hid _ := Lib.hid (Ipw8.out.step hbw9)
          have Iqw9 : Hid _ := Lib.hid (Iqw8.out.step hbw9)
          have Raw9 : Hid _ := Lib.hid (Raw8.out.below hbw9)
          have Rbw9 : Hid _ := Lib.hid (Rbw8.out.below hbw9)
          clear Vaw8
          clear Vbw8
          clear Vuw8
          clear Ipw8
          clear Iqw8
          clear Raw8
          clear Rbw8
          obtain ⟨law9, caw9_0, faw9_0⟩ := Vaw9.out.open1
          obtain ⟨lbw9, cbw9_0, fbw9_0⟩ := Vbw9.out.open1
          obtain ⟨luw9, cuw9_0, fuw9_0⟩ := Vuw9.out.open1
          have Iu'w9 := Pw9
          clear Pw9
          have bjw9 := Lib.hid (later bjw8.out hbw9)
          have B9 := hbw9
          refine hK.out _ _ ?_ (fun hHeld => ?_)
          · (first | exact ⟨VB.step (hHeld.1) B9, VB.step (hHeld.2) B9⟩ | exact ⟨VB.drew Vaw2.out, VB.drew Vbw2.out⟩)
          clear hK K
          try simp only [Act.put, List.setIfInBounds_toArray, List.set_cons_zero, List.set_cons_succ]
          refine readyL (rs := [8]) (by kernel_rfl) (by simp) ?_
          refine AllReadyL.last (o := ?_) ?_ (fun K hK => ?_)
          rotate_left
          · (simp only [List.getElem?_toArray, List.getElem?_cons_succ, List.getElem?_cons_zero]; rfl)
          go_simp
          refine hK.out _ _ ?_
          clear hK K
          try simp only [Act.put, List.setIfInBounds_toArray, List.set_cons_zero, List.set_cons_succ]
          refine doneL (by kernel_rfl) ?_ _
          go_wp2_with fail
          go_meet
          have e1 : w2.heap.size ≤ w8.heap.size := bjw8.out.size
          have e2 : w9.heap.size ≤ w9.heap.size := Iu'w9.out.hi_le
          case rel => exact ⟨w5.heap.size, rfl, Aw9, kw9, w8.heap.size, w9.heap.size, by omega, e1, Nat.le_trans e2 (Nat.le_of_eq (size_setCell_eq _ _ _).symm), by omega, Vuw9.out.set 0 _, Own.far (p := ⟨w5.heap.size, 0, none⟩) Iu'w9.out (by show w5.heap.size < _ ∨ _ ≤ w5.heap.size; omega) _, bjw9.out.setCell (by show w2.heap.size ≤ w5.heap.size; omega) _⟩
        exact AllReadyL.none_
      refine AllReadyL.cons (o := ?_) ?_ (fun K hK => ?_) ?_
      rotate_left
      · (simp only [List.getElem?_toArray, List.getElem?_cons_succ, List.getElem?_cons_zero]; rfl)
      · go_simp
        have hbw10 : Below (w4).heap.size (w4) (w4.alloc (.cells #[.slice none 0 0] 29 (0, 0))) := by first | exact (Below.refl _ _).alloc (Nat.le_refl _) _ | exact (show Below (w2.drew).heap.size w2.drew (w2.drew.alloc (.cells #[.slice none 0 0] 29 (0, 0))) from (Below.refl _ _).alloc (Nat.le_refl _) _)
        have haw10 : w2.heap.size ≤ w4.heap.size := bjw4.out.size
        have hyw10 : (w4).heap.size < (w4.alloc (.cells #[.slice none 0 0] 29 (0, 0))).heap.size := by simp
        have Zw10 : Hid (VB (w4.alloc (.cells #[.slice none 0 0] 29 (0, 0))) (w4.heap.size) [.slice none 0 0]) := Lib.hid (by first | exact VB.new (cs := [.slice none 0 0]) rfl | exact VB.drew (VB.new (cs := [.slice none 0 0]) rfl))
        generalize (w4.alloc (.cells #[.slice none 0 0] 29 (0, 0))) = w10 at *
        clear law4 caw4_0 faw4_0 lbw4 cbw4_0 fbw4_0
        have bbw10 := Lib.hid (later bbw4.out hbw10)
        have hzw10 := hbw10.size
        have Vaw10 := Lib.hid (Vaw4.out.step hbw10)
        have Vbw10 := Lib.hid (Vbw4.out.step hbw10)
        have Ipw10 : Hid _ := Lib.hid (Ipw4.out.step hbw10)
        have Raw10 : Hid _ := Lib.hid (Raw4.out.below hbw10)
        have Rbw10 : Hid _ := Lib.hid (Rbw4.out.below hbw10)
        clear Vaw4
        clear Vbw4
        clear Ipw4
        clear Raw4
        clear Rbw4
        obtain ⟨law10, caw10_0, faw10_0⟩ := Vaw10.out.open1
        obtain ⟨lbw10, cbw10_0, fbw10_0⟩ := Vbw10.out.open1
        have bjw10 := Lib.hid (later bjw4.out hbw10)
        clear law10 caw10_0 faw10_0 lbw10 cbw10_0 fbw10_0
        have Vuw10 := Zw10
        obtain ⟨law10, caw10_0, faw10_0⟩ := Vaw10.out.open1
        obtain ⟨lbw10, cbw10_0, fbw10_0⟩ := Vbw10.out.open1
        obtain ⟨luw10, cuw10_0, fuw10_0⟩ := Vuw10.out.open1
        have B9 := hbw10
        refine hK.out _ _ ?_ (fun hHeld => ?_)
        · (first | exact ⟨VB.step (hHeld.1) B9, VB.step (hHeld.2) B9⟩ | exact ⟨VB.drew Vaw2.out, VB.drew Vbw2.out⟩)
        clear hK K
        try simp only [Act.put, List.setIfInBounds_toArray, List.set_cons_zero, List.set_cons_succ]
        refine readyL (rs := [5]) (by kernel_rfl) (by simp) ?_
        refine AllReadyL.cons (o := ?_) ?_ (fun K hK => ?_) AllReadyL.none_
        rotate_left
        · (simp only [List.getElem?_toArray, List.getElem?_cons_succ, List.getElem?_cons_zero]; rfl)
        go_simp
        go_at_call 36
        ((with_reducible refine (implCommonOf _ _ _ _ _ _ za zb _ Raw10.out Rbw10.out La.out Lb.out (by omega) (by omega)).mono ?_))
        rintro e w11 ⟨Aw11, kw11, rfl, Ow11, hbw11⟩
        have Pw11 := Lib.hid Ow11
        clear Ow11
        clear law10 caw10_0 faw10_0 lbw10 cbw10_0 fbw10_0 luw10 cuw10_0 fuw10_0
        have bbw11 := Lib.hid (later bbw10.out hbw11)
        have hzw11 := hbw11.size
        have Vaw11 := Lib.hid (Vaw10.out.step hbw11)
        have Vbw11 := Lib.hid (Vbw10.out.step hbw11)
        have Vuw11 := Lib.hid (Vuw10.out.step hbw11)
        have Ipw11 : Hid _ := Lib.hid (Ipw10.out.step hbw11)
        have Raw11 : Hid _ := Lib.hid (Raw10.out.below hbw11)
        have Rbw11 : Hid _ := Lib.hid (Rbw10.out.below hbw11)
        clear Vaw10
        clear Vbw10
        clear Vuw10
        clear Ipw10
        clear Raw10
        clear Rbw10
        obtain ⟨law11, caw11_0, faw11_0⟩ := Vaw11.out.open1
        obtain ⟨lbw11, cbw11_0, fbw11_0⟩ := Vbw11.out.open1
        obtain ⟨luw11, cuw11_0, fuw11_0⟩ := Vuw11.out.open1
        have Iqw11 := Pw11
        clear Pw11
        have bjw11 := Lib.hid (later bjw10.out hbw11)
        have B9 := hbw11
        refine hK.out _ _ ?_ (fun hHeld => ?_)
        · (first | exact ⟨VB.step (hHeld.1) B9, VB.step (hHeld.2) B9⟩ | exact ⟨VB.drew Vaw2.out, VB.drew Vbw2.out⟩)
        clear hK K
        try simp only [Act.put, List.setIfInBounds_toArray, List.set_cons_zero, List.set_cons_succ]
        refine readyL (rs := [6]) (by kernel_rfl) (by simp) ?_
        refine AllReadyL.cons (o := ?_) ?_ (fun K hK => ?_) AllReadyL.none_
        rotate_left
        · (simp only [List.getElem?_toArray, List.getElem?_cons_succ, List.getElem?_cons_zero]; rfl)
        go_simp
        go_at_call 34
        ((with_reducible refine (implUnionOf _ _ _ _ _ _ (Pl.withoutOf za zb) (Pl.commonOf za zb) _ (Recs.arg Ipw11.out) (Recs.arg Iqw11.out) rfl rfl (by omega) (by omega)).mono ?_))
        rw [hsplit]
        rintro e w12 ⟨Aw12, kw12, rfl, Ow12, hbw12⟩
        have Pw12 := Lib.hid Ow12
        clear Ow12
        clear law11 caw11_0 faw11_0 lbw11 cbw11_0 fbw11_0 luw11 cuw11_0 fuw11_0
        have bbw12 := Lib.hid (later bbw11.out hbw12)
        have hzw12 := hbw12.size
        have Vaw12 := Lib.hid (Vaw11.out.step hbw12)
        have Vbw12 := Lib.hid (Vbw11.out.step hbw12)
        have Vuw12 := Lib.hid (Vuw11.out.step hbw12)
        have Ipw12 : Hid _ := Lib.hid (Ipw11.out.step hbw12)
        have Iqw12 : Hid _ := Lib.hid (Iqw11.out.step hbw12)
        have Raw12 : Hid _ := Lib.hid (Raw11.out.below hbw12)
        have Rbw12 : Hid _ := Lib.hid (Rbw11.out.below hbw12)
        clear Vaw11
        clear Vbw11
        clear Vuw11
        clear Ipw11
        clear Iqw11
        clear Raw11
        clear Rbw11
        obtain ⟨law12, caw12_0, faw12_0⟩ := Vaw12.out.open1
        obtain ⟨lbw12, cbw12_0, fbw12_0⟩ := Vbw12.out.open1
        obtain ⟨luw12, cuw12_0, fuw12_0⟩ := Vuw12.out.open1
        have Iu'w12 := Pw12
        clear Pw12
        have bjw12 := Lib.hid (later bjw11.out hbw12)
        have B9 := hbw12
        refine hK.out _ _ ?_ (fun hHeld => ?_)
        · (first | exact ⟨VB.step (hHeld.1) B9, VB.step (hHeld.2) B9⟩ | exact ⟨VB.drew Vaw2.out, VB.drew Vbw2.out⟩)
        clear hK K
        try simp only [Act.put, List.setIfInBounds_toArray, List.set_cons_zero, List.set_cons_succ]
        refine readyL (rs := [8]) (by kernel_rfl) (by simp) ?_
        refine AllReadyL.last (o := ?_) ?_ (fun K hK => ?_)
        rotate_left
        · (simp only [List.getElem?_toArray, List.getElem?_cons_succ, List.getElem?_cons_zero]; rfl)
        go_simp
        refine hK.out _ _ ?_
        clear hK K
        try simp only [Act.put, List.setIfInBounds_toArray, List.set_cons_zero, List.set_cons_succ]
        refine doneL (by kernel_rfl) ?_ _
        go_wp2_with fail
        go_meet
        have e1 : w2.heap.size ≤ w11.heap.size := bjw11.out.size
        have e2 : w12.heap.size ≤ w12.heap.size := Iu'w12.out.hi_le
        case rel => exact ⟨w4.heap.size, rfl, Aw12, kw12, w11.heap.size, w12.heap.size, by omega, e1, Nat.le_trans e2 (Nat.le_of_eq (size_setCell_eq _ _ _).symm), by omega, Vuw12.out.set 0 _, Own.far (p := ⟨w4.heap.size, 0, none⟩) Iu'w12.out (by show w4.heap.size < _ ∨ _ ≤ w4.heap.size; omega) _, bjw12.out.setCell (by show w2.heap.size ≤ w4.heap.size; omega) _⟩
      exact AllReadyL.none_
    refine AllReadyL.cons (o := ?_) ?_ (fun K hK => ?_) ?_
    rotate_left
    · (simp only [List.getElem?_toArray, List.getElem?_cons_succ, List.getElem?_cons_zero]; rfl)
    · go_simp
      have hbw13 : Below (w2.drew).heap.size (w2.drew) (w2.alloc (.cells #[.slice none 0 0] 29 (0, 0))).drew := by first | exact (Below.refl _ _).alloc (Nat.le_refl _) _ | exact (show Below (w2.drew).heap.size w2.drew (w2.drew.alloc (.cells #[.slice none 0 0] 29 (0, 0))) from (Below.refl _ _).alloc (Nat.le_refl _) _)
      have haw13 : w2.heap.size ≤ w2.heap.size := Nat.le_refl _
      have hyw13 : (w2.drew).heap.size < (w2.alloc (.cells #[.slice none 0 0] 29 (0, 0))).drew.heap.size := by simp
      have Zw13 : Hid (VB (w2.alloc (.cells #[.slice none 0 0] 29 (0, 0))).drew (w2.heap.size) [.slice none 0 0]) := Lib.hid (by first | exact VB.new (cs := [.slice none 0 0]) rfl | exact VB.drew (VB.new (cs := [.slice none 0 0]) rfl))
      generalize (w2.alloc (.cells #[.slice none 0 0] 29 (0, 0))).drew = w13 at *
      have bbw13 := Lib.hid (later bbw3.out hbw13)
      have hzw13 := hbw13.size
      have Vaw13 := Lib.hid (Vaw3.out.step hbw13)
      have Vbw13 := Lib.hid (Vbw3.out.step hbw13)
      have Raw13 : Hid _ := Lib.hid (Raw3.out.below hbw13)
      have Rbw13 : Hid _ := Lib.hid (Rbw3.out.below hbw13)
      clear Vaw3
      clear Vbw3
      clear Raw3
      clear Rbw3
      obtain ⟨law13, caw13_0, faw13_0⟩ := Vaw13.out.open1
      obtain ⟨lbw13, cbw13_0, fbw13_0⟩ := Vbw13.out.open1
      have bjw13 := Lib.hid (later bjw3.out hbw13)
      clear law13 caw13_0 faw13_0 lbw13 cbw13_0 fbw13_0
      have Vuw13 := Zw13
      obtain ⟨law13, caw13_0, faw13_0⟩ := Vaw13.out.open1
      obtain ⟨lbw13, cbw13_0, fbw13_0⟩ := Vbw13.out.open1
      obtain ⟨luw13, cuw13_0, fuw13_0⟩ := Vuw13.out.open1
      have B9 := hbw13
      refine hK.out _ _ ?_ (fun hHeld => ?_)
      · (first | exact ⟨VB.step (hHeld.1) B9, VB.step (hHeld.2) B9⟩ | exact ⟨VB.drew Vaw2.out, VB.drew Vbw2.out⟩)
      clear hK K
      try simp only [Act.put, List.setIfInBounds_toArray, List.set_cons_zero, List.set_cons_succ]
      refine readyL (rs := [2]) (by kernel_rfl) (by simp) ?_
      refine AllReadyL.cons (o := ?_) ?_ (fun K hK => ?_) AllReadyL.none_
      rotate_left
      · (simp only [List.getElem?_toArray, List.getElem?_cons_succ, List.getElem?_cons_zero]; rfl)
      go_simp
      go_at_call 38
      ((with_reducible refine (implWithoutOf _ _ _ _ _ _ za zb _ Raw13.out Rbw13.out La.out Lb.out (by omega) (by omega)).mono ?_))
      rintro e w14 ⟨Aw14, kw14, rfl, Ow14, hbw14⟩
      have Pw14 := Lib.hid Ow14
      clear Ow14
      clear law13 caw13_0 faw13_0 lbw13 cbw13_0 fbw13_0 luw13 cuw13_0 fuw13_0
      have bbw14 := Lib.hid (later bbw13.out hbw14)
      have hzw14 := hbw14.size
      have Vaw14 := Lib.hid (Vaw13.out.step hbw14)
      have Vbw14 := Lib.hid (Vbw13.out.step hbw14)
      have Vuw14 := Lib.hid (Vuw13.out.step hbw14)
      have Raw14 : Hid _ := Lib.hid (Raw13.out.below hbw14)
      have Rbw14 : Hid _ := Lib.hid (Rbw13.out.below hbw14)
      clear Vaw13
      clear Vbw13
      clear Vuw13
      clear Raw13
      clear Rbw13
      obtain ⟨law14, caw14_0, faw14_0⟩ := Vaw14.out.open1
      obtain ⟨lbw14, cbw14_0, fbw14_0⟩ := Vbw14.out.open1
      obtain ⟨luw14, cuw14_0, fuw14_0⟩ := Vuw14.out.open1
      have Ipw14 := Pw14
      clear Pw14
      have bjw14 := Lib.hid (later bjw13.out hbw14)
      have B9 := hbw14
      refine hK.out _ _ ?_ (fun hHeld => ?_)
      · (first | exact ⟨VB.step (hHeld.1) B9, VB.step (hHeld.2) B9⟩ | exact ⟨VB.drew Vaw2.out, VB.drew Vbw2.out⟩)
      clear hK K
      try simp only [Act.put, List.setIfInBounds_toArray, List.set_cons_zero, List.set_cons_succ]
      refine readyL (rs := [5]) (by kernel_rfl) (by simp) ?_
      refine AllReadyL.cons (o := ?_) ?_ (fun K hK => ?_) AllReadyL.none_
      rotate_left
      · (simp only [List.getElem?_toArray, List.getElem?_cons_succ, List.getElem?_cons_zero]; rfl)
      go_simp
      go_at_call 36
      ((with_reducible refine (implCommonOf _ _ _ _ _ _ za zb _ Raw14.out Rbw14.out La.out Lb.out (by omega) (by omega)).mono ?_))
      rintro e w15 ⟨Aw15, kw15, rfl, Ow15, hbw15⟩
      have Pw15 := Lib.hid Ow15
      clear Ow15
      clear law14 caw14_0 faw14_0 lbw14 cbw14_0 fbw14_0 luw14 cuw14_0 fuw14_0
      have bbw15 := Lib.hid (later bbw14.out hbw15)
      have hzw15 := hbw15.size
      have Vaw15 := Lib.hid (Vaw14.out.step hbw15)
      have Vbw15 := Lib.hid (Vbw14.out.step hbw15)
      have Vuw15 := Lib.hid (Vuw14.out.step hbw15)
      have Ipw15 : Hid _ := Lib.hid (Ipw14.out.step hbw15)
      have Raw15 : Hid _ := Lib.hid (Raw14.out.below hbw15)
      have Rbw15 : Hid _ := Lib.hid (Rbw14.out.below hbw15)
      clear Vaw14
      clear Vbw14
      clear Vuw14
      clear Ipw14
      clear Raw14
      clear Rbw14
      obtain ⟨law15, caw15_0, faw15_0⟩ := Vaw15.out.open1
      obtain ⟨lbw15, cbw15_0, fbw15_0⟩ := Vbw15.out.open1
      obtain ⟨luw15, cuw15_0, fuw15_0⟩ := Vuw15.out.open1
      have Iqw15 := Pw15
      clear Pw15
      have bjw15 := Lib.hid (later bjw14.out hbw15)
      have B9 := hbw15
      refine hK.out _ _ ?_ (fun hHeld => ?_)
      · (first | exact ⟨VB.step (hHeld.1) B9, VB.step (hHeld.2) B9⟩ | exact ⟨VB.drew Vaw2.out, VB.drew Vbw2.out⟩)
      clear hK K
      try simp only [Act.put, List.setIfInBounds_toArray, List.set_cons_zero, List.set_cons_succ]
      refine readyL (rs := [6]) (by kernel_rfl) (by simp) ?_
      refine AllReadyL.cons (o := ?_) ?_ (fun K hK => ?_) AllReadyL.none_
      rotate_left
      · (simp only [List.getElem?_toArray, List.getElem?_cons_succ, List.getElem?_cons_zero]; rfl)
      go_simp
      go_at_call 34
      ((with_reducible refine (implUnionOf _ _ _ _ _ _ (Pl.withoutOf za zb) (Pl.commonOf za zb) _ (Recs.arg Ipw15.out) (Recs.arg Iqw15.out) rfl rfl (by omega) (by omega)).mono ?_))
      rw [hsplit]
      rintro e w16 ⟨Aw16, kw16, rfl, Ow16, hbw16⟩
      have Pw16 := Lib.hid Ow16
      clear Ow16
      clear law15 caw15_0 faw15_0 lbw15 cbw15_0 fbw15_0 luw15 cuw15_0 fuw15_0
      have bbw16 := Lib.hid (later bbw15.out hbw16)
      have hzw16 := hbw16.size
      have Vaw16 := Lib.hid (Vaw15.out.step hbw16)
      have Vbw16 := Lib.hid (Vbw15.out.step hbw16)
      have Vuw16 := Lib.hid (Vuw15.out.step hbw16)
      have Ipw16 : Hid _ := Lib.hid (Ipw15.out.step hbw16)
      have Iqw16 : Hid _ := Lib.hid (Iqw15.out.step hbw16)
      have Raw16 : Hid _ := Lib.hid (Raw15.out.below hbw16)
      have Rbw16 : Hid _ := Lib.hid (Rbw15.out.below hbw16)
      clear Vaw15
      clear Vbw15
      clear Vuw15
      clear Ipw15
      clear Iqw15
      clear Raw15
      clear Rbw15
      obtain ⟨law16, caw16_0, faw16_0⟩ := Vaw16.out.open1
      obtain ⟨lbw16, cbw16_0, fbw16_0⟩ := Vbw16.out.open1
      obtain ⟨luw16, cuw16_0, fuw16_0⟩ := Vuw16.out.open1
      have Iu'w16 := Pw16
      clear Pw16
      have bjw16 := Lib.hid (later bjw15.out hbw16)
      have B9 := hbw16
      refine hK.out _ _ ?_ (fun hHeld => ?_)
      · (first | exact ⟨VB.step (hHeld.1) B9, VB.step (hHeld.2) B9⟩ | exact ⟨VB.drew Vaw2.out, VB.drew Vbw2.out⟩)
      clear hK K
      try simp only [Act.put, List.setIfInBounds_toArray, List.set_cons_zero, List.set_cons_succ]
      refine readyL (rs := [8]) (by kernel_rfl) (by simp) ?_
      refine AllReadyL.last (o := ?_) ?_ (fun K hK => ?_)
      rotate_left
      · (simp only [List.getElem?_toArray, List.getElem?_cons_succ, List.getElem?_cons_zero]; rfl)
      go_simp
      refine hK.out _ _ ?_
      clear hK K
      try simp only [Act.put, List.setIfInBounds_toArray, List.set_cons_zero, List.set_cons_succ]
      refine doneL (by kernel_rfl) ?_ _
      go_wp2_with fail
      go_meet
      have e1 : w2.heap.size ≤ w15.heap.size := bjw15.out.size
      have e2 : w16.heap.size ≤ w16.heap.size := Iu'w16.out.hi_le
      case rel => exact ⟨w2.heap.size, rfl, Aw16, kw16, w15.heap.size, w16.heap.size, by omega, e1, Nat.le_trans e2 (Nat.le_of_eq (size_setCell_eq _ _ _).symm), by omega, Vuw16.out.set 0 _, Own.far (p := ⟨w2.heap.size, 0, none⟩) Iu'w16.out (by show w2.heap.size < _ ∨ _ ≤ w2.heap.size; omega) _, bjw16.out.setCell (by show w2.heap.size ≤ w2.heap.size; omega) _⟩
    exact AllReadyL.none_
  case rest =>
    obtain ⟨bkw17, rfl, Aw17, kw17, low17, hiw17, p1w17, p2w17, p3w17, p4w17, VVw17, IIw17, hbw17⟩ := hcut
    obtain ⟨w17, rfl⟩ : ∃ w17 : World, w17 = wc := ⟨_, rfl⟩
    clear law2 caw2_0 faw2_0 lbw2 cbw2_0 fbw2_0
    have bbw17 := Lib.hid (later bbw2.out hbw17)
    have hzw17 := hbw17.size
    have Vaw17 := Lib.hid (Vaw2.out.step hbw17)
    have Vbw17 := Lib.hid (Vbw2.out.step hbw17)
    have Raw17 : Hid _ := Lib.hid (Raw2.out.below hbw17)
    have Rbw17 : Hid _ := Lib.hid (Rbw2.out.below hbw17)
    clear Vaw2
    clear Vbw2
    clear Raw2
    clear Rbw2
    obtain ⟨law17, caw17_0, faw17_0⟩ := Vaw17.out.open1
    obtain ⟨lbw17, cbw17_0, fbw17_0⟩ := Vbw17.out.open1
    clear law17 caw17_0 faw17_0 lbw17 cbw17_0 fbw17_0
    have Vuw17 := Lib.hid VVw17
    have tw17 := Vuw17.out.lt
    have Iuw17 := Lib.hid IIw17
    clear VVw17 IIw17
    obtain ⟨law17, caw17_0, faw17_0⟩ := Vaw17.out.open1
    obtain ⟨lbw17, cbw17_0, fbw17_0⟩ := Vbw17.out.open1
    obtain ⟨luw17, cuw17_0, fuw17_0⟩ := Vuw17.out.open1
    go_wp2_with fail
    go_cut [6] (fun s6 wx => ∃ b : Nat, s6 = .pointer (some ⟨b, 0, none⟩) ∧ NewVarR w17 wx b (Pl.unionOf za zb))
    case first =>
      clear Iuw17
      clear law17 caw17_0 faw17_0 lbw17 cbw17_0 fbw17_0 luw17 cuw17_0 fuw17_0
      clear Vuw17
      have ma := Vaw17.out.lt
      have mb := Vbw17.out.lt
      have bjw18 : Hid (Below w17.heap.size w17 w17.drew) := Lib.hid (Below.drew (Below.refl _ _))
      refine regionL (S := (fun w' => VB w' (w1.heap.size) [.slice Aa na ca] ∧ VB w' (w1.heap.size + 1) [.slice Ab nb cb])) (L := 9) (by kernel_rfl) ?_ (fun hHeld => ?_)
      · (first | exact ⟨VB.below Vaw17.out BJ9 ma, VB.below Vbw17.out BJ9 mb⟩ | exact ⟨VB.drew Vaw17.out, VB.drew Vbw17.out⟩)
      refine takeL (i := 1) (oi := ?_) (v := ?_) ?_ (by kernel_rfl) (by kernel_rfl) (by kernel_rfl) (by kernel_rfl) ?_ (Or.inl ⟨?_, ?_⟩) (by assumption) ?_
      rotate_left 2
      · (simp only [List.getElem?_toArray, List.getElem?_cons_succ, List.getElem?_cons_zero]; rfl)
      · exact fun _ _ _ h => h
      · rfl
      · (intro w hSw; (try dsimp only at hSw); obtain ⟨S0, S1⟩ := hSw; obtain ⟨l0S, c0S0, _⟩ := S0.open1; obtain ⟨l1S, c1S0, _⟩ := S1.open1; clear S0 S1; go_simp; (try with_reducible rfl))
      try simp only [Act.put, List.setIfInBounds_toArray, List.set_cons_zero, List.set_cons_succ]
      refine takeL (i := 2) (oi := ?_) (v := ?_) ?_ (by kernel_rfl) (by kernel_rfl) (by kernel_rfl) (by kernel_rfl) ?_ (Or.inl ⟨?_, ?_⟩) (by assumption) ?_
      rotate_left 2
      · (simp only [List.getElem?_toArray, List.getElem?_cons_succ, List.getElem?_cons_zero]; rfl)
      · exact fun _ _ _ h => h
      · rfl
      · (intro w hSw; (try dsimp only at hSw); obtain ⟨S0, S1⟩ := hSw; obtain ⟨l0S, c0S0, _⟩ := S0.open1; obtain ⟨l1S, c1S0, _⟩ := S1.open1; clear S0 S1; go_simp; (try with_reducible rfl))
      try simp only [Act.put, List.setIfInBounds_toArray, List.set_cons_zero, List.set_cons_succ]
      refine takeL (i := 4) (oi := ?_) (v := ?_) ?_ (by kernel_rfl) (by kernel_rfl) (by kernel_rfl) (by kernel_rfl) ?_ (Or.inl ⟨?_, ?_⟩) (by assumption) ?_
      rotate_left 2
      · (simp only [List.getElem?_toArray, List.getElem?_cons_succ, List.getElem?_cons_zero]; rfl)
      · exact fun _ _ _ h => h
      · rfl
      · (intro w hSw; (try dsimp only at hSw); obtain ⟨S0, S1⟩ := hSw; obtain ⟨l0S, c0S0, _⟩ := S0.open1; obtain ⟨l1S, c1S0, _⟩ := S1.open1; clear S0 S1; go_simp; (try with_reducible rfl))
      try simp only [Act.put, List.setIfInBounds_toArray, List.set_cons_zero, List.set_cons_succ]
      refine takeL (i := 5) (oi := ?_) (v := ?_) ?_ (by kernel_rfl) (by kernel_rfl) (by kernel_rfl) (by kernel_rfl) ?_ (Or.inl ⟨?_, ?_⟩) (by assumption) ?_
      rotate_left 2
      · (simp only [List.getElem?_toArray, List.getElem?_cons_succ, List.getElem?_cons_zero]; rfl)
      · exact fun _ _ _ h => h
      · rfl
      · (intro w hSw; (try dsimp only at hSw); obtain ⟨S0, S1⟩ := hSw; obtain ⟨l0S, c0S0, _⟩ := S0.open1; obtain ⟨l1S, c1S0, _⟩ := S1.open1; clear S0 S1; go_simp; (try with_reducible rfl))
      try simp only [Act.put, List.setIfInBounds_toArray, List.set_cons_zero, List.set_cons_succ]
      refine readyL (rs := [0, 8]) (by kernel_rfl) (by simp) ?_
      refine AllReadyL.cons (o := ?_) ?_ (fun K hK => ?_) ?_
      rotate_left
      · (simp only [List.getElem?_toArray, List.getElem?_cons_succ, List.getElem?_cons_zero]; rfl)
      · go_simp
        have hbw19 : Below (w17.drew).heap.size (w17.drew) (w17.alloc (.cells #[] 44 (0, 0))).drew := by first | exact (Below.refl _ _).alloc (Nat.le_refl _) _ | exact (show Below (w17.drew).heap.size w17.drew (w17.drew.alloc (.cells #[] 44 (0, 0))) from (Below.refl _ _).alloc (Nat.le_refl _) _)
        have hyw19 : (w17.drew).heap.size < (w17.alloc (.cells #[] 44 (0, 0))).drew.heap.size := by simp
        have haw19 : w17.heap.size ≤ w17.heap.size := Nat.le_refl _
        have Xw19 : Hid (World.ownsRow (w17.alloc (.cells #[] 44 (0, 0))).drew w17.heap.size 44 4 (.slice (some ⟨w17.heap.size, 0, none⟩) 0 0) 0 (rcells [])) := Lib.hid (by first | exact World.ownsRow_lit (base := w17.heap.size) (e := 44) (size := 4) w17 #[] 0 (by first | exact Nat.le_refl _ | exact bjw18.out.size) (by unfold maxLen; omega) (by simp) | exact (show World.ownsRow (w17.alloc (.cells #[] 44 (0, 0))) _ _ _ _ _ _ from World.ownsRow_lit (base := w17.heap.size) (e := 44) (size := 4) w17 #[] 0 (Nat.le_refl _) (by unfold maxLen; omega) (by simp)))
        generalize (w17.alloc (.cells #[] 44 (0, 0))).drew = w19 at *
        have bjw19 := Lib.hid (later bjw18.out hbw19)
        have BJ9 := bjw19.out
        refine hK.out _ _ ?_ (fun hHeld => ?_)
        · (first | exact ⟨VB.below Vaw17.out BJ9 ma, VB.below Vbw17.out BJ9 mb⟩ | exact ⟨VB.drew Vaw17.out, VB.drew Vbw17.out⟩)
        clear hK K
        try simp only [Act.put, List.setIfInBounds_toArray, List.set_cons_zero, List.set_cons_succ]
        refine readyL (rs := [3, 8]) (by kernel_rfl) (by simp) ?_
        refine AllReadyL.cons (o := ?_) ?_ (fun K hK => ?_) ?_
        rotate_left
        · (simp only [List.getElem?_toArray, List.getElem?_cons_succ, List.getElem?_cons_zero]; rfl)
        · have RR := Rbw17.out.below bjw19.out
          refine step_appendR rfl _ _ rfl w17.heap.size (Value.slice (some ⟨w17.heap.size, 0, none⟩) 0 0) ([] : List Pl.R) rfl Xw19.out Ab nb cb zb rfl RR Lb.out (by first | (simp; omega) | (simp only [List.length_append, List.nil_append, La.out, Lb.out]; omega)) bjw19.out.size ?_
          intro vw20 w20 hown hgrow hat
          have Xw20 := Lib.hid hown
          have bjw20 : Hid (Below w17.heap.size w17 w20) := Lib.hid (bjw19.out.trans ⟨hgrow.os, hgrow.tape, hgrow.output, by have := bjw19.out.size; have := hgrow.size; omega, fun k hk => hgrow.block k (by have := bjw19.out.size; omega) (fun e => by have := (Xw19.out.lt k e.symm).1; omega)⟩)
          have BJ9 := bjw20.out
          clear hown hgrow hat RR
          refine hK.out _ _ ?_ (fun hHeld => ?_)
          · (first | exact ⟨VB.below Vaw17.out BJ9 ma, VB.below Vbw17.out BJ9 mb⟩ | exact ⟨VB.drew Vaw17.out, VB.drew Vbw17.out⟩)
          clear hK K
          try simp only [Act.put, List.setIfInBounds_toArray, List.set_cons_zero, List.set_cons_succ]
          refine readyL (rs := [6, 8]) (by kernel_rfl) (by simp) ?_
          refine AllReadyL.cons (o := ?_) ?_ (fun K hK => ?_) ?_
          rotate_left
          · (simp only [List.getElem?_toArray, List.getElem?_cons_succ, List.getElem?_cons_zero]; rfl)
          · have RR := Raw17.out.below bjw20.out
            refine step_appendR rfl _ _ rfl w17.heap.size vw20 (([] : List Pl.R) ++ zb) rfl Xw20.out Aa na ca za rfl RR La.out (by first | (simp; omega) | (simp only [List.length_append, List.nil_append, La.out, Lb.out]; omega)) bjw20.out.size ?_
            intro vw21 w21 hown hgrow hat
            have Xw21 := Lib.hid hown
            have bjw21 : Hid (Below w17.heap.size w17 w21) := Lib.hid (bjw20.out.trans ⟨hgrow.os, hgrow.tape, hgrow.output, by have := bjw20.out.size; have := hgrow.size; omega, fun k hk => hgrow.block k (by have := bjw20.out.size; omega) (fun e => by have := (Xw20.out.lt k e.symm).1; omega)⟩)
            have BJ9 := bjw21.out
            clear hown hgrow hat RR
            refine hK.out _ _ ?_ (fun hHeld => ?_)
            · (first | exact ⟨VB.below Vaw17.out BJ9 ma, VB.below Vbw17.out BJ9 mb⟩ | exact ⟨VB.drew Vaw17.out, VB.drew Vbw17.out⟩)
            clear hK K
            try simp only [Act.put, List.setIfInBounds_toArray, List.set_cons_zero, List.set_cons_succ]
            refine readyL (rs := [7, 8]) (by kernel_rfl) (by simp) ?_
            refine AllReadyL.cons (o := ?_) ?_ (fun K hK => ?_) ?_
            rotate_left
            · (simp only [List.getElem?_toArray, List.getElem?_cons_succ, List.getElem?_cons_zero]; rfl)
            · obtain ⟨nk, hnk⟩ : ∃ n, (((([] : List Pl.R) ++ zb) ++ za)).length = n := ⟨_, rfl⟩
              obtain ⟨Ax, cx, hvx, _, _⟩ := Own.shape (Own.of_row Xw21.out)
              rw [hnk] at hvx
              have HK := Lib.hid hnk
              clear hnk
              subst hvx
              have hk9 : nk ≤ 1000 := by have := HK.out; simp only [List.length_append, List.nil_append, La.out, Lb.out, List.length_nil] at this; omega
              have RX : RArg w21 Ax ((([] : List Pl.R) ++ zb) ++ za) := Recs.arg (show Recs w21 w17.heap.size w21.heap.size (.slice Ax nk cx) ((([] : List Pl.R) ++ zb) ++ za) from Own.of_row Xw21.out)
              go_simp
              go_at_call 21
              ((with_reducible refine (implRegionOf Ax nk cx ((([] : List Pl.R) ++ zb) ++ za) _ RX HK.out (by omega)).mono ?_))
              rw [List.nil_append, happ]
              rintro e w22 ⟨Aw22, kw22, rfl, Ow22, hbw22⟩
              have Iw22 := Lib.hid Ow22
              have bjw22 := Lib.hid (later bjw21.out hbw22)
              have BJ9 := bjw22.out
              have hzw22 := hbw22.size
              clear Ow22
              refine hK.out _ _ ?_ (fun hHeld => ?_)
              · (first | exact ⟨VB.below Vaw17.out BJ9 ma, VB.below Vbw17.out BJ9 mb⟩ | exact ⟨VB.drew Vaw17.out, VB.drew Vbw17.out⟩)
              clear hK K
              try simp only [Act.put, List.setIfInBounds_toArray, List.set_cons_zero, List.set_cons_succ]
              refine readyL (rs := [8]) (by kernel_rfl) (by simp) ?_
              refine AllReadyL.cons (o := ?_) ?_ (fun K hK => ?_) AllReadyL.none_
              rotate_left
              · (simp only [List.getElem?_toArray, List.getElem?_cons_succ, List.getElem?_cons_zero]; rfl)
              go_simp
              have hbw23 : Below (w22).heap.size (w22) (w22.alloc (.cells #[.slice none 0 0] 29 (0, 0))) := by first | exact (Below.refl _ _).alloc (Nat.le_refl _) _ | exact (show Below (w17.drew).heap.size w17.drew (w17.drew.alloc (.cells #[.slice none 0 0] 29 (0, 0))) from (Below.refl _ _).alloc (Nat.le_refl _) _)
              have hyw23 : (w22).heap.size < (w22.alloc (.cells #[.slice none 0 0] 29 (0, 0))).heap.size := by simp
              have haw23 : w17.heap.size ≤ w22.heap.size := bjw22.out.size
              have Zw23 : Hid (VB (w22.alloc (.cells #[.slice none 0 0] 29 (0, 0))) (w22.heap.size) [.slice none 0 0]) := Lib.hid (by first | exact VB.new (cs := [.slice none 0 0]) rfl | exact VB.drew (VB.new (cs := [.slice none 0 0]) rfl))
              generalize (w22.alloc (.cells #[.slice none 0 0] 29 (0, 0))) = w23 at *
              have bjw23 := Lib.hid (later bjw22.out hbw23)
              have BJ9 := bjw23.out
              have Iw23 : Hid _ := Lib.hid (Recs.step Iw22.out hbw23)
              refine hK.out _ _ ?_ (fun hHeld => ?_)
              · (first | exact ⟨VB.below Vaw17.out BJ9 ma, VB.below Vbw17.out BJ9 mb⟩ | exact ⟨VB.drew Vaw17.out, VB.drew Vbw17.out⟩)
              clear hK K
              try simp only [Act.put, List.setIfInBounds_toArray, List.set_cons_zero, List.set_cons_succ]
              refine readyL (rs := [9]) (by kernel_rfl) (by simp) ?_
              refine AllReadyL.last (o := ?_) ?_ (fun K hK => ?_)
              rotate_left
              · (simp only [List.getElem?_toArray, List.getElem?_cons_succ, List.getElem?_cons_zero]; rfl)
              obtain ⟨lz, cz, fz⟩ := Zw23.out.open1
              go_simp
              refine hK.out _ _ ?_
              clear hK K
              try simp only [Act.put, List.setIfInBounds_toArray, List.set_cons_zero, List.set_cons_succ]
              refine doneL (by kernel_rfl) ?_ _
              go_wp2_with fail
              go_meet
              have e1 : w17.heap.size ≤ w21.heap.size := bjw21.out.size
              have e2 : w22.heap.size ≤ w23.heap.size := Iw23.out.hi_le
              have e3 := Zw23.out.lt
              case rel => exact ⟨w22.heap.size, rfl, Aw22, kw22, w21.heap.size, w22.heap.size, by omega, e1, Nat.le_trans e2 (Nat.le_of_eq (size_setCell_eq _ _ _).symm), by omega, Zw23.out.set 0 _, Own.far (p := ⟨w22.heap.size, 0, none⟩) Iw23.out (by show w22.heap.size < _ ∨ _ ≤ w22.heap.size; omega) _, bjw23.out.setCell (by show w17.heap.size ≤ w22.heap.size; omega) _⟩
            refine AllReadyL.cons (o := ?_) ?_ (fun K hK => ?_) ?_
            rotate_left
            · (simp only [List.getElem?_toArray, List.getElem?_cons_succ, List.getElem?_cons_zero]; rfl)
            · go_simp
              have hbw24 : Below (w21).heap.size (w21) (w21.alloc (.cells #[.slice none 0 0] 29 (0, 0))) := by first | exact (Below.refl _ _).alloc (Nat.le_refl _) _ | exact (show Below (w17.drew).heap.size w17.drew (w17.drew.alloc (.cells #[.slice none 0 0] 29 (0, 0))) from (Below.refl _ _).alloc (Nat.le_refl _) _)
              have hyw24 : (w21).heap.size < (w21.alloc (.cells #[.slice none 0 0] 29 (0, 0))).heap.size := by simp
              have haw24 : w17.heap.size ≤ w21.heap.size := bjw21.out.size
              have Zw24 : Hid (VB (w21.alloc (.cells #[.slice none 0 0] 29 (0, 0))) (w21.heap.size) [.slice none 0 0]) := Lib.hid (by first | exact VB.new (cs := [.slice none 0 0]) rfl | exact VB.drew (VB.new (cs := [.slice none 0 0]) rfl))
              generalize (w21.alloc (.cells #[.slice none 0 0] 29 (0, 0))) = w24 at *
              have bjw24 := Lib.hid (later bjw21.out hbw24)
              have BJ9 := bjw24.out
              have Xw24 : Hid _ := Lib.hid (Own.below (Own.of_row Xw21.out) hbw24 (Nat.le_refl _)).1
              have Nw24 : Hid (∀ g, vw21.ownBlock = some g → g ≠ w21.heap.size) := Lib.hid (fun g hg => Nat.ne_of_lt (Xw21.out.lt g hg).2)
              refine hK.out _ _ ?_ (fun hHeld => ?_)
              · (first | exact ⟨VB.below Vaw17.out BJ9 ma, VB.below Vbw17.out BJ9 mb⟩ | exact ⟨VB.drew Vaw17.out, VB.drew Vbw17.out⟩)
              clear hK K
              try simp only [Act.put, List.setIfInBounds_toArray, List.set_cons_zero, List.set_cons_succ]
              refine readyL (rs := [7]) (by kernel_rfl) (by simp) ?_
              refine AllReadyL.cons (o := ?_) ?_ (fun K hK => ?_) AllReadyL.none_
              rotate_left
              · (simp only [List.getElem?_toArray, List.getElem?_cons_succ, List.getElem?_cons_zero]; rfl)
              obtain ⟨nk, hnk⟩ : ∃ n, (((([] : List Pl.R) ++ zb) ++ za)).length = n := ⟨_, rfl⟩
              obtain ⟨Ax, cx, hvx, _, _⟩ := Own.shape (Own.of_row Xw24.out)
              rw [hnk] at hvx
              have HK := Lib.hid hnk
              clear hnk
              subst hvx
              have hk9 : nk ≤ 1000 := by have := HK.out; simp only [List.length_append, List.nil_append, La.out, Lb.out, List.length_nil] at this; omega
              have RX : RArg w24 Ax ((([] : List Pl.R) ++ zb) ++ za) := Recs.arg (show Recs w24 w17.heap.size w24.heap.size (.slice Ax nk cx) ((([] : List Pl.R) ++ zb) ++ za) from Own.of_row Xw24.out)
              go_simp
              go_at_call 21
              ((with_reducible refine (implRegionOf Ax nk cx ((([] : List Pl.R) ++ zb) ++ za) _ RX HK.out (by omega)).mono ?_))
              rw [List.nil_append, happ]
              rintro e w25 ⟨Aw25, kw25, rfl, Ow25, hbw25⟩
              have Iw25 := Lib.hid Ow25
              have bjw25 := Lib.hid (later bjw24.out hbw25)
              have BJ9 := bjw25.out
              have hzw25 := hbw25.size
              have Zw25 : Hid _ := Lib.hid (Zw24.out.step hbw25)
              have tzw25 := Zw24.out.lt
              clear Ow25
              refine hK.out _ _ ?_ (fun hHeld => ?_)
              · (first | exact ⟨VB.below Vaw17.out BJ9 ma, VB.below Vbw17.out BJ9 mb⟩ | exact ⟨VB.drew Vaw17.out, VB.drew Vbw17.out⟩)
              clear hK K
              try simp only [Act.put, List.setIfInBounds_toArray, List.set_cons_zero, List.set_cons_succ]
              refine readyL (rs := [9]) (by kernel_rfl) (by simp) ?_
              refine AllReadyL.last (o := ?_) ?_ (fun K hK => ?_)
              rotate_left
              · (simp only [List.getElem?_toArray, List.getElem?_cons_succ, List.getElem?_cons_zero]; rfl)
              obtain ⟨lz, cz, fz⟩ := Zw25.out.open1
              go_simp
              refine hK.out _ _ ?_
              clear hK K
              try simp only [Act.put, List.setIfInBounds_toArray, List.set_cons_zero, List.set_cons_succ]
              refine doneL (by kernel_rfl) ?_ _
              go_wp2_with fail
              go_meet
              have e1 : w17.heap.size ≤ w24.heap.size := bjw24.out.size
              have e2 : w25.heap.size ≤ w25.heap.size := Iw25.out.hi_le
              have e3 := Zw25.out.lt
              case rel => exact ⟨w21.heap.size, rfl, Aw25, kw25, w24.heap.size, w25.heap.size, by omega, e1, Nat.le_trans e2 (Nat.le_of_eq (size_setCell_eq _ _ _).symm), by omega, Zw25.out.set 0 _, Own.far (p := ⟨w21.heap.size, 0, none⟩) Iw25.out (by show w21.heap.size < _ ∨ _ ≤ w21.heap.size; omega) _, bjw25.out.setCell (by show w17.heap.size ≤ w21.heap.size; omega) _⟩
            exact AllReadyL.none_
          refine AllReadyL.cons (o := ?_) ?_ (fun K hK => ?_) ?_
          rotate_left
          · (simp only [List.getElem?_toArray, List.getElem?_cons_succ, List.getElem?_cons_zero]; rfl)
          · go_simp
            have hbw26 : Below (w20).heap.size (w20) (w20.alloc (.cells #[.slice none 0 0] 29 (0, 0))) := by first | exact (Below.refl _ _).alloc (Nat.le_refl _) _ | exact (show Below (w17.drew).heap.size w17.drew (w17.drew.alloc (.cells #[.slice none 0 0] 29 (0, 0))) from (Below.refl _ _).alloc (Nat.le_refl _) _)
            have hyw26 : (w20).heap.size < (w20.alloc (.cells #[.slice none 0 0] 29 (0, 0))).heap.size := by simp
            have haw26 : w17.heap.size ≤ w20.heap.size := bjw20.out.size
            have Zw26 : Hid (VB (w20.alloc (.cells #[.slice none 0 0] 29 (0, 0))) (w20.heap.size) [.slice none 0 0]) := Lib.hid (by first | exact VB.new (cs := [.slice none 0 0]) rfl | exact VB.drew (VB.new (cs := [.slice none 0 0]) rfl))
            generalize (w20.alloc (.cells #[.slice none 0 0] 29 (0, 0))) = w26 at *
            have bjw26 := Lib.hid (later bjw20.out hbw26)
            have BJ9 := bjw26.out
            have Xw26 : Hid _ := Lib.hid (Own.below (Own.of_row Xw20.out) hbw26 (Nat.le_refl _)).1
            have Nw26 : Hid (∀ g, vw20.ownBlock = some g → g ≠ w20.heap.size) := Lib.hid (fun g hg => Nat.ne_of_lt (Xw20.out.lt g hg).2)
            refine hK.out _ _ ?_ (fun hHeld => ?_)
            · (first | exact ⟨VB.below Vaw17.out BJ9 ma, VB.below Vbw17.out BJ9 mb⟩ | exact ⟨VB.drew Vaw17.out, VB.drew Vbw17.out⟩)
            clear hK K
            try simp only [Act.put, List.setIfInBounds_toArray, List.set_cons_zero, List.set_cons_succ]
            refine readyL (rs := [6]) (by kernel_rfl) (by simp) ?_
            refine AllReadyL.cons (o := ?_) ?_ (fun K hK => ?_) AllReadyL.none_
            rotate_left
            · (simp only [List.getElem?_toArray, List.getElem?_cons_succ, List.getElem?_cons_zero]; rfl)
            have RR := Raw17.out.below bjw26.out
            refine step_appendR rfl _ _ rfl w17.heap.size vw20 (([] : List Pl.R) ++ zb) rfl Xw26.out Aa na ca za rfl RR La.out (by first | (simp; omega) | (simp only [List.length_append, List.nil_append, La.out, Lb.out]; omega)) bjw26.out.size ?_
            intro vw27 w27 hown hgrow hat
            have Xw27 := Lib.hid hown
            have bjw27 : Hid (Below w17.heap.size w17 w27) := Lib.hid (bjw26.out.trans ⟨hgrow.os, hgrow.tape, hgrow.output, by have := bjw26.out.size; have := hgrow.size; omega, fun k hk => hgrow.block k (by have := bjw26.out.size; omega) (fun e => by have := (Xw26.out.lt k e.symm).1; omega)⟩)
            have BJ9 := bjw27.out
            have Zw27 : Hid (VB w27 (w20.heap.size) [.slice none 0 0]) := Lib.hid (by obtain ⟨t, ht⟩ := Zw26.out; exact ⟨t, by rw [hgrow.block _ (Zw26.out.lt) (fun e => Nw26.out _ e.symm rfl)]; exact ht⟩)
            have Nw27 : Hid (∀ g, vw27.ownBlock = some g → g ≠ w20.heap.size) := Lib.hid (fun g hg => by rcases hat with h | h; exact Nw26.out g (h ▸ hg); have h1 := h g hg; have h2 := Zw26.out.lt; omega)
            clear hown hgrow hat RR
            refine hK.out _ _ ?_ (fun hHeld => ?_)
            · (first | exact ⟨VB.below Vaw17.out BJ9 ma, VB.below Vbw17.out BJ9 mb⟩ | exact ⟨VB.drew Vaw17.out, VB.drew Vbw17.out⟩)
            clear hK K
            try simp only [Act.put, List.setIfInBounds_toArray, List.set_cons_zero, List.set_cons_succ]
            refine readyL (rs := [7]) (by kernel_rfl) (by simp) ?_
            refine AllReadyL.cons (o := ?_) ?_ (fun K hK => ?_) AllReadyL.none_
            rotate_left
            · (simp only [List.getElem?_toArray, List.getElem?_cons_succ, List.getElem?_cons_zero]; rfl)
            obtain ⟨nk, hnk⟩ : ∃ n, (((([] : List Pl.R) ++ zb) ++ za)).length = n := ⟨_, rfl⟩
            obtain ⟨Ax, cx, hvx, _, _⟩ := Own.shape (Own.of_row Xw27.out)
            rw [hnk] at hvx
            have HK := Lib.hid hnk
            clear hnk
            subst hvx
            have hk9 : nk ≤ 1000 := by have := HK.out; simp only [List.length_append, List.nil_append, La.out, Lb.out, List.length_nil] at this; omega
            have RX : RArg w27 Ax ((([] : List Pl.R) ++ zb) ++ za) := Recs.arg (show Recs w27 w17.heap.size w27.heap.size (.slice Ax nk cx) ((([] : List Pl.R) ++ zb) ++ za) from Own.of_row Xw27.out)
            go_simp
            go_at_call 21
            ((with_reducible refine (implRegionOf Ax nk cx ((([] : List Pl.R) ++ zb) ++ za) _ RX HK.out (by omega)).mono ?_))
            rw [List.nil_append, happ]
            rintro e w28 ⟨Aw28, kw28, rfl, Ow28, hbw28⟩
            have Iw28 := Lib.hid Ow28
            have bjw28 := Lib.hid (later bjw27.out hbw28)
            have BJ9 := bjw28.out
            have hzw28 := hbw28.size
            have Zw28 : Hid _ := Lib.hid (Zw27.out.step hbw28)
            have tzw28 := Zw27.out.lt
            clear Ow28
            refine hK.out _ _ ?_ (fun hHeld => ?_)
            · (first | exact ⟨VB.below Vaw17.out BJ9 ma, VB.below Vbw17.out BJ9 mb⟩ | exact ⟨VB.drew Vaw17.out, VB.drew Vbw17.out⟩)
            clear hK K
            try simp only [Act.put, List.setIfInBounds_toArray, List.set_cons_zero, List.set_cons_succ]
            refine readyL (rs := [9]) (by kernel_rfl) (by simp) ?_
            refine AllReadyL.last (o := ?_) ?_ (fun K hK => ?_)
            rotate_left
            · (simp only [List.getElem?_toArray, List.getElem?_cons_succ, List.getElem?_cons_zero]; rfl)
            obtain ⟨lz, cz, fz⟩ := Zw28.out.open1
            go_simp
            refine hK.out _ _ ?_
            clear hK K
            try simp only [Act.put, List.setIfInBounds_toArray, List.set_cons_zero, List.set_cons_succ]
            refine doneL (by kernel_rfl) ?_ _
            go_wp2_with fail
            go_meet
            have e1 : w17.heap.size ≤ w27.heap.size := bjw27.out.size
            have e2 : w28.heap.size ≤ w28.heap.size := Iw28.out.hi_le
            have e3 := Zw28.out.lt
            case rel => exact ⟨w20.heap.size, rfl, Aw28, kw28, w27.heap.size, w28.heap.size, by omega, e1, Nat.le_trans e2 (Nat.le_of_eq (size_setCell_eq _ _ _).symm), by omega, Zw28.out.set 0 _, Own.far (p := ⟨w20.heap.size, 0, none⟩) Iw28.out (by show w20.heap.size < _ ∨ _ ≤ w20.heap.size; omega) _, bjw28.out.setCell (by show w17.heap.size ≤ w20.heap.size; omega) _⟩
          exact AllReadyL.none_
        refine AllReadyL.cons (o := ?_) ?_ (fun K hK => ?_) ?_
        rotate_left
        · (simp only [List.getElem?_toArray, List.getElem?_cons_succ, List.getElem?_cons_zero]; rfl)
        · go_simp
          have hbw29 : Below (w19).heap.size (w19) (w19.alloc (.cells #[.slice none 0 0] 29 (0, 0))) := by first | exact (Below.refl _ _).alloc (Nat.le_refl _) _ | exact (show Below (w17.drew).heap.size w17.drew (w17.drew.alloc (.cells #[.slice none 0 0] 29 (0, 0))) from (Below.refl _ _).alloc (Nat.le_refl _) _)
          have hyw29 : (w19).heap.size < (w19.alloc (.cells #[.slice none 0 0] 29 (0, 0))).heap.size := by simp
          have haw29 : w17.heap.size ≤ w19.heap.size := bjw19.out.size
          have Zw29 : Hid (VB (w19.alloc (.cells #[.slice none 0 0] 29 (0, 0))) (w19.heap.size) [.slice none 0 0]) := Lib.hid (by first | exact VB.new (cs := [.slice none 0 0]) rfl | exact VB.drew (VB.new (cs := [.slice none 0 0]) rfl))
          generalize (w19.alloc (.cells #[.slice none 0 0] 29 (0, 0))) = w29 at *
          have bjw29 := Lib.hid (later bjw19.out hbw29)
          have BJ9 := bjw29.out
          have Xw29 : Hid _ := Lib.hid (Own.below (Own.of_row Xw19.out) hbw29 (Nat.le_refl _)).1
          have Nw29 : Hid (∀ g, (Value.slice (some ⟨w17.heap.size, 0, none⟩) 0 0).ownBlock = some g → g ≠ w19.heap.size) := Lib.hid (fun g hg => Nat.ne_of_lt (Xw19.out.lt g hg).2)
          refine hK.out _ _ ?_ (fun hHeld => ?_)
          · (first | exact ⟨VB.below Vaw17.out BJ9 ma, VB.below Vbw17.out BJ9 mb⟩ | exact ⟨VB.drew Vaw17.out, VB.drew Vbw17.out⟩)
          clear hK K
          try simp only [Act.put, List.setIfInBounds_toArray, List.set_cons_zero, List.set_cons_succ]
          refine readyL (rs := [3]) (by kernel_rfl) (by simp) ?_
          refine AllReadyL.cons (o := ?_) ?_ (fun K hK => ?_) AllReadyL.none_
          rotate_left
          · (simp only [List.getElem?_toArray, List.getElem?_cons_succ, List.getElem?_cons_zero]; rfl)
          have RR := Rbw17.out.below bjw29.out
          refine step_appendR rfl _ _ rfl w17.heap.size (Value.slice (some ⟨w17.heap.size, 0, none⟩) 0 0) ([] : List Pl.R) rfl Xw29.out Ab nb cb zb rfl RR Lb.out (by first | (simp; omega) | (simp only [List.length_append, List.nil_append, La.out, Lb.out]; omega)) bjw29.out.size ?_
          intro vw30 w30 hown hgrow hat
          have Xw30 := Lib.hid hown
          have bjw30 : Hid (Below w17.heap.size w17 w30) := Lib.hid (bjw29.out.trans ⟨hgrow.os, hgrow.tape, hgrow.output, by have := bjw29.out.size; have := hgrow.size; omega, fun k hk => hgrow.block k (by have := bjw29.out.size; omega) (fun e => by have := (Xw29.out.lt k e.symm).1; omega)⟩)
          have BJ9 := bjw30.out
          have Zw30 : Hid (VB w30 (w19.heap.size) [.slice none 0 0]) := Lib.hid (by obtain ⟨t, ht⟩ := Zw29.out; exact ⟨t, by rw [hgrow.block _ (Zw29.out.lt) (fun e => Nw29.out _ e.symm rfl)]; exact ht⟩)
          have Nw30 : Hid (∀ g, vw30.ownBlock = some g → g ≠ w19.heap.size) := Lib.hid (fun g hg => by rcases hat with h | h; exact Nw29.out g (h ▸ hg); have h1 := h g hg; have h2 := Zw29.out.lt; omega)
          clear hown hgrow hat RR
          refine hK.out _ _ ?_ (fun hHeld => ?_)
          · (first | exact ⟨VB.below Vaw17.out BJ9 ma, VB.below Vbw17.out BJ9 mb⟩ | exact ⟨VB.drew Vaw17.out, VB.drew Vbw17.out⟩)
          clear hK K
          try simp only [Act.put, List.setIfInBounds_toArray, List.set_cons_zero, List.set_cons_succ]
          refine readyL (rs := [6]) (by kernel_rfl) (by simp) ?_
          refine AllReadyL.cons (o := ?_) ?_ (fun K hK => ?_) AllReadyL.none_
          rotate_left
          · (simp only [List.getElem?_toArray, List.getElem?_cons_succ, List.getElem?_cons_zero]; rfl)
          have RR := Raw17.out.below bjw30.out
          refine step_appendR rfl _ _ rfl w17.heap.size vw30 (([] : List Pl.R) ++ zb) rfl Xw30.out Aa na ca za rfl RR La.out (by first | (simp; omega) | (simp only [List.length_append, List.nil_append, La.out, Lb.out]; omega)) bjw30.out.size ?_
          intro vw31 w31 hown hgrow hat
          have Xw31 := Lib.hid hown
          have bjw31 : Hid (Below w17.heap.size w17 w31) := Lib.hid (bjw30.out.trans ⟨hgrow.os, hgrow.tape, hgrow.output, by have := bjw30.out.size; have := hgrow.size; omega, fun k hk => hgrow.block k (by have := bjw30.out.size; omega) (fun e => by have := (Xw30.out.lt k e.symm).1; omega)⟩)
          have BJ9 := bjw31.out
          have Zw31 : Hid (VB w31 (w19.heap.size) [.slice none 0 0]) := Lib.hid (by obtain ⟨t, ht⟩ := Zw30.out; exact ⟨t, by rw [hgrow.block _ (Zw30.out.lt) (fun e => Nw30.out _ e.symm rfl)]; exact ht⟩)
          have Nw31 : Hid (∀ g, vw31.ownBlock = some g → g ≠ w19.heap.size) := Lib.hid (fun g hg => by rcases hat with h | h; exact Nw30.out g (h ▸ hg); have h1 := h g hg; have h2 := Zw30.out.lt; omega)
          clear hown hgrow hat RR
          refine hK.out _ _ ?_ (fun hHeld => ?_)
          · (first | exact ⟨VB.below Vaw17.out BJ9 ma, VB.below Vbw17.out BJ9 mb⟩ | exact ⟨VB.drew Vaw17.out, VB.drew Vbw17.out⟩)
          clear hK K
          try simp only [Act.put, List.setIfInBounds_toArray, List.set_cons_zero, List.set_cons_succ]
          refine readyL (rs := [7]) (by kernel_rfl) (by simp) ?_
          refine AllReadyL.cons (o := ?_) ?_ (fun K hK => ?_) AllReadyL.none_
          rotate_left
          · (simp only [List.getElem?_toArray, List.getElem?_cons_succ, List.getElem?_cons_zero]; rfl)
          obtain ⟨nk, hnk⟩ : ∃ n, (((([] : List Pl.R) ++ zb) ++ za)).length = n := ⟨_, rfl⟩
          obtain ⟨Ax, cx, hvx, _, _⟩ := Own.shape (Own.of_row Xw31.out)
          rw [hnk] at hvx
          have HK := Lib.hid hnk
          clear hnk
          subst hvx
          have hk9 : nk ≤ 1000 := by have := HK.out; simp only [List.length_append, List.nil_append, La.out, Lb.out, List.length_nil] at this; omega
          have RX : RArg w31 Ax ((([] : List Pl.R) ++ zb) ++ za) := Recs.arg (show Recs w31 w17.heap.size w31.heap.size (.slice Ax nk cx) ((([] : List Pl.R) ++ zb) ++ za) from Own.of_row Xw31.out)
          go_simp
          go_at_call 21
          ((with_reducible refine (implRegionOf Ax nk cx ((([] : List Pl.R) ++ zb) ++ za) _ RX HK.out (by omega)).mono ?_))
          rw [List.nil_append, happ]
          rintro e w32 ⟨Aw32, kw32, rfl, Ow32, hbw32⟩
          have Iw32 := Lib.hid Ow32
          have bjw32 := Lib.hid (later bjw31.out hbw32)
          have BJ9 := bjw32.out
          have hzw32 := hbw32.size
          have Zw32 : Hid _ := Lib.hid (Zw31.out.step hbw32)
          have tzw32 := Zw31.out.lt
          clear Ow32
          refine hK.out _ _ ?_ (fun hHeld => ?_)
          · (first | exact ⟨VB.below Vaw17.out BJ9 ma, VB.below Vbw17.out BJ9 mb⟩ | exact ⟨VB.drew Vaw17.out, VB.drew Vbw17.out⟩)
          clear hK K
          try simp only [Act.put, List.setIfInBounds_toArray, List.set_cons_zero, List.set_cons_succ]
          refine readyL (rs := [9]) (by kernel_rfl) (by simp) ?_
          refine AllReadyL.last (o := ?_) ?_ (fun K hK => ?_)
          rotate_left
          · (simp only [List.getElem?_toArray, List.getElem?_cons_succ, List.getElem?_cons_zero]; rfl)
          obtain ⟨lz, cz, fz⟩ := Zw32.out.open1
          go_simp
          refine hK.out _ _ ?_
          clear hK K
          try simp only [Act.put, List.setIfInBounds_toArray, List.set_cons_zero, List.set_cons_succ]
          refine doneL (by kernel_rfl) ?_ _
          go_wp2_with fail
          go_meet
          have e1 : w17.heap.size ≤ w31.heap.size := bjw31.out.size
          have e2 : w32.heap.size ≤ w32.heap.size := Iw32.out.hi_le
          have e3 := Zw32.out.lt
          case rel => exact ⟨w19.heap.size, rfl, Aw32, kw32, w31.heap.size, w32.heap.size, by omega, e1, Nat.le_trans e2 (Nat.le_of_eq (size_setCell_eq _ _ _).symm), by omega, Zw32.out.set 0 _, Own.far (p := ⟨w19.heap.size, 0, none⟩) Iw32.out (by show w19.heap.size < _ ∨ _ ≤ w19.heap.size; omega) _, bjw32.out.setCell (by show w17.heap.size ≤ w19.heap.size; omega) _⟩
        exact AllReadyL.none_
      refine AllReadyL.cons (o := ?_) ?_ (fun K hK => ?_) ?_
      rotate_left
      · (simp only [List.getElem?_toArray, List.getElem?_cons_succ, List.getElem?_cons_zero]; rfl)
      · go_simp
        have hbw33 : Below (w17.drew).heap.size (w17.drew) (w17.alloc (.cells #[.slice none 0 0] 29 (0, 0))).drew := by first | exact (Below.refl _ _).alloc (Nat.le_refl _) _ | exact (show Below (w17.drew).heap.size w17.drew (w17.drew.alloc (.cells #[.slice none 0 0] 29 (0, 0))) from (Below.refl _ _).alloc (Nat.le_refl _) _)
        have hyw33 : (w17.drew).heap.size < (w17.alloc (.cells #[.slice none 0 0] 29 (0, 0))).drew.heap.size := by simp
        have haw33 : w17.heap.size ≤ w17.heap.size := Nat.le_refl _
        have Zw33 : Hid (VB (w17.alloc (.cells #[.slice none 0 0] 29 (0, 0))).drew (w17.heap.size) [.slice none 0 0]) := Lib.hid (by first | exact VB.new (cs := [.slice none 0 0]) rfl | exact VB.drew (VB.new (cs := [.slice none 0 0]) rfl))
        generalize (w17.alloc (.cells #[.slice none 0 0] 29 (0, 0))).drew = w33 at *
        have bjw33 := Lib.hid (later bjw18.out hbw33)
        have BJ9 := bjw33.out
        refine hK.out _ _ ?_ (fun hHeld => ?_)
        · (first | exact ⟨VB.below Vaw17.out BJ9 ma, VB.below Vbw17.out BJ9 mb⟩ | exact ⟨VB.drew Vaw17.out, VB.drew Vbw17.out⟩)
        clear hK K
        try simp only [Act.put, List.setIfInBounds_toArray, List.set_cons_zero, List.set_cons_succ]
        refine readyL (rs := [0]) (by kernel_rfl) (by simp) ?_
        refine AllReadyL.cons (o := ?_) ?_ (fun K hK => ?_) AllReadyL.none_
        rotate_left
        · (simp only [List.getElem?_toArray, List.getElem?_cons_succ, List.getElem?_cons_zero]; rfl)
        go_simp
        have hbw34 : Below (w33).heap.size (w33) (w33.alloc (.cells #[] 44 (0, 0))) := by first | exact (Below.refl _ _).alloc (Nat.le_refl _) _ | exact (show Below (w17.drew).heap.size w17.drew (w17.drew.alloc (.cells #[] 44 (0, 0))) from (Below.refl _ _).alloc (Nat.le_refl _) _)
        have hyw34 : (w33).heap.size < (w33.alloc (.cells #[] 44 (0, 0))).heap.size := by simp
        have haw34 : w17.heap.size ≤ w33.heap.size := bjw33.out.size
        have Xw34 : Hid (World.ownsRow (w33.alloc (.cells #[] 44 (0, 0))) w17.heap.size 44 4 (.slice (some ⟨w33.heap.size, 0, none⟩) 0 0) 0 (rcells [])) := Lib.hid (by first | exact World.ownsRow_lit (base := w17.heap.size) (e := 44) (size := 4) w33 #[] 0 (by first | exact Nat.le_refl _ | exact bjw33.out.size) (by unfold maxLen; omega) (by simp) | exact (show World.ownsRow (w17.alloc (.cells #[] 44 (0, 0))) _ _ _ _ _ _ from World.ownsRow_lit (base := w17.heap.size) (e := 44) (size := 4) w17 #[] 0 (Nat.le_refl _) (by unfold maxLen; omega) (by simp)))
        generalize (w33.alloc (.cells #[] 44 (0, 0))) = w34 at *
        have bjw34 := Lib.hid (later bjw33.out hbw34)
        have BJ9 := bjw34.out
        have Zw34 : Hid _ := Lib.hid (Zw33.out.step hbw34)
        have Nw34 : Hid (∀ g, (Value.slice (some ⟨w33.heap.size, 0, none⟩) 0 0).ownBlock = some g → g ≠ w17.heap.size) := Lib.hid (fun g hg => by have := Zw33.out.lt; have e : w33.heap.size = g := (by simpa [Value.ownBlock] using hg); omega)
        refine hK.out _ _ ?_ (fun hHeld => ?_)
        · (first | exact ⟨VB.below Vaw17.out BJ9 ma, VB.below Vbw17.out BJ9 mb⟩ | exact ⟨VB.drew Vaw17.out, VB.drew Vbw17.out⟩)
        clear hK K
        try simp only [Act.put, List.setIfInBounds_toArray, List.set_cons_zero, List.set_cons_succ]
        refine readyL (rs := [3]) (by kernel_rfl) (by simp) ?_
        refine AllReadyL.cons (o := ?_) ?_ (fun K hK => ?_) AllReadyL.none_
        rotate_left
        · (simp only [List.getElem?_toArray, List.getElem?_cons_succ, List.getElem?_cons_zero]; rfl)
        have RR := Rbw17.out.below bjw34.out
        refine step_appendR rfl _ _ rfl w17.heap.size (Value.slice (some ⟨w33.heap.size, 0, none⟩) 0 0) ([] : List Pl.R) rfl Xw34.out Ab nb cb zb rfl RR Lb.out (by first | (simp; omega) | (simp only [List.length_append, List.nil_append, La.out, Lb.out]; omega)) bjw34.out.size ?_
        intro vw35 w35 hown hgrow hat
        have Xw35 := Lib.hid hown
        have bjw35 : Hid (Below w17.heap.size w17 w35) := Lib.hid (bjw34.out.trans ⟨hgrow.os, hgrow.tape, hgrow.output, by have := bjw34.out.size; have := hgrow.size; omega, fun k hk => hgrow.block k (by have := bjw34.out.size; omega) (fun e => by have := (Xw34.out.lt k e.symm).1; omega)⟩)
        have BJ9 := bjw35.out
        have Zw35 : Hid (VB w35 (w17.heap.size) [.slice none 0 0]) := Lib.hid (by obtain ⟨t, ht⟩ := Zw34.out; exact ⟨t, by rw [hgrow.block _ (Zw34.out.lt) (fun e => Nw34.out _ e.symm rfl)]; exact ht⟩)
        have Nw35 : Hid (∀ g, vw35.ownBlock = some g → g ≠ w17.heap.size) := Lib.hid (fun g hg => by rcases hat with h | h; exact Nw34.out g (h ▸ hg); have h1 := h g hg; have h2 := Zw34.out.lt; omega)
        clear hown hgrow hat RR
        refine hK.out _ _ ?_ (fun hHeld => ?_)
        · (first | exact ⟨VB.below Vaw17.out BJ9 ma, VB.below Vbw17.out BJ9 mb⟩ | exact ⟨VB.drew Vaw17.out, VB.drew Vbw17.out⟩)
        clear hK K
        try simp only [Act.put, List.setIfInBounds_toArray, List.set_cons_zero, List.set_cons_succ]
        refine readyL (rs := [6]) (by kernel_rfl) (by simp) ?_
        refine AllReadyL.cons (o := ?_) ?_ (fun K hK => ?_) AllReadyL.none_
        rotate_left
        · (simp only [List.getElem?_toArray, List.getElem?_cons_succ, List.getElem?_cons_zero]; rfl)
        have RR := Raw17.out.below bjw35.out
        refine step_appendR rfl _ _ rfl w17.heap.size vw35 (([] : List Pl.R) ++ zb) rfl Xw35.out Aa na ca za rfl RR La.out (by first | (simp; omega) | (simp only [List.length_append, List.nil_append, La.out, Lb.out]; omega)) bjw35.out.size ?_
        intro vw36 w36 hown hgrow hat
        have Xw36 := Lib.hid hown
        have bjw36 : Hid (Below w17.heap.size w17 w36) := Lib.hid (bjw35.out.trans ⟨hgrow.os, hgrow.tape, hgrow.output, by have := bjw35.out.size; have := hgrow.size; omega, fun k hk => hgrow.block k (by have := bjw35.out.size; omega) (fun e => by have := (Xw35.out.lt k e.symm).1; omega)⟩)
        have BJ9 := bjw36.out
        have Zw36 : Hid (VB w36 (w17.heap.size) [.slice none 0 0]) := Lib.hid (by obtain ⟨t, ht⟩ := Zw35.out; exact ⟨t, by rw [hgrow.block _ (Zw35.out.lt) (fun e => Nw35.out _ e.symm rfl)]; exact ht⟩)
        have Nw36 : Hid (∀ g, vw36.ownBlock = some g → g ≠ w17.heap.size) := Lib.hid (fun g hg => by rcases hat with h | h; exact Nw35.out g (h ▸ hg); have h1 := h g hg; have h2 := Zw35.out.lt; omega)
        clear hown hgrow hat RR
        refine hK.out _ _ ?_ (fun hHeld => ?_)
        · (first | exact ⟨VB.below Vaw17.out BJ9 ma, VB.below Vbw17.out BJ9 mb⟩ | exact ⟨VB.drew Vaw17.out, VB.drew Vbw17.out⟩)
        clear hK K
        try simp only [Act.put, List.setIfInBounds_toArray, List.set_cons_zero, List.set_cons_succ]
        refine readyL (rs := [7]) (by kernel_rfl) (by simp) ?_
        refine AllReadyL.cons (o := ?_) ?_ (fun K hK => ?_) AllReadyL.none_
        rotate_left
        · (simp only [List.getElem?_toArray, List.getElem?_cons_succ, List.getElem?_cons_zero]; rfl)
        obtain ⟨nk, hnk⟩ : ∃ n, (((([] : List Pl.R) ++ zb) ++ za)).length = n := ⟨_, rfl⟩
        obtain ⟨Ax, cx, hvx, _, _⟩ := Own.shape (Own.of_row Xw36.out)
        rw [hnk] at hvx
        have HK := Lib.hid hnk
        clear hnk
        subst hvx
        have hk9 : nk ≤ 1000 := by have := HK.out; simp only [List.length_append, List.nil_append, La.out, Lb.out, List.length_nil] at this; omega
        have RX : RArg w36 Ax ((([] : List Pl.R) ++ zb) ++ za) := Recs.arg (show Recs w36 w17.heap.size w36.heap.size (.slice Ax nk cx) ((([] : List Pl.R) ++ zb) ++ za) from Own.of_row Xw36.out)
        go_simp
        go_at_call 21
        ((with_reducible refine (implRegionOf Ax nk cx ((([] : List Pl.R) ++ zb) ++ za) _ RX HK.out (by omega)).mono ?_))
        rw [List.nil_append, happ]
        rintro e w37 ⟨Aw37, kw37, rfl, Ow37, hbw37⟩
        have Iw37 := Lib.hid Ow37
        have bjw37 := Lib.hid (later bjw36.out hbw37)
        have BJ9 := bjw37.out
        have hzw37 := hbw37.size
        have Zw37 : Hid _ := Lib.hid (Zw36.out.step hbw37)
        have tzw37 := Zw36.out.lt
        clear Ow37
        refine hK.out _ _ ?_ (fun hHeld => ?_)
        · (first | exact ⟨VB.below Vaw17.out BJ9 ma, VB.below Vbw17.out BJ9 mb⟩ | exact ⟨VB.drew Vaw17.out, VB.drew Vbw17.out⟩)
        clear hK K
        try simp only [Act.put, List.setIfInBounds_toArray, List.set_cons_zero, List.set_cons_succ]
        refine readyL (rs := [9]) (by kernel_rfl) (by simp) ?_
        refine AllReadyL.last (o := ?_) ?_ (fun K hK => ?_)
        rotate_left
        · (simp only [List.getElem?_toArray, List.getElem?_cons_succ, List.getElem?_cons_zero]; rfl)
        obtain ⟨lz, cz, fz⟩ := Zw37.out.open1
        go_simp
        refine hK.out _ _ ?_
        clear hK K
        try simp only [Act.put, List.setIfInBounds_toArray, List.set_cons_zero, List.set_cons_succ]
        refine doneL (by kernel_rfl) ?_ _
        go_wp2_with fail
        go_meet
        have e1 : w17.heap.size ≤ w36.heap.size := bjw36.out.size
        have e2 : w37.heap.size ≤ w37.heap.size := Iw37.out.hi_le
        have e3 := Zw37.out.lt
        case rel => exact ⟨w17.heap.size, rfl, Aw37, kw37, w36.heap.size, w37.heap.size, by omega, e1, Nat.le_trans e2 (Nat.le_of_eq (size_setCell_eq _ _ _).symm), by omega, Zw37.out.set 0 _, Own.far (p := ⟨w17.heap.size, 0, none⟩) Iw37.out (by show w17.heap.size < _ ∨ _ ≤ w17.heap.size; omega) _, bjw37.out.setCell (by show w17.heap.size ≤ w17.heap.size; omega) _⟩
      exact AllReadyL.none_
    case rest =>
      obtain ⟨bkw38, rfl, Aw38, kw38, low38, hiw38, p1w38, p2w38, p3w38, p4w38, VVw38, IIw38, hbw38⟩ := hcut
      obtain ⟨w38, rfl⟩ : ∃ w38 : World, w38 = wc := ⟨_, rfl⟩
      clear law17 caw17_0 faw17_0 lbw17 cbw17_0 fbw17_0 luw17 cuw17_0 fuw17_0
      have bbw38 := Lib.hid (later bbw17.out hbw38)
      have hzw38 := hbw38.size
      have Vaw38 := Lib.hid (Vaw17.out.step hbw38)
      have Vbw38 := Lib.hid (Vbw17.out.step hbw38)
      have Vuw38 := Lib.hid (Vuw17.out.step hbw38)
      have Iuw38 : Hid _ := Lib.hid (Iuw17.out.step hbw38)
      have Raw38 : Hid _ := Lib.hid (Raw17.out.below hbw38)
      have Rbw38 : Hid _ := Lib.hid (Rbw17.out.below hbw38)
      clear Vaw17
      clear Vbw17
      clear Vuw17
      clear Iuw17
      clear Raw17
      clear Rbw17
      obtain ⟨law38, caw38_0, faw38_0⟩ := Vaw38.out.open1
      obtain ⟨lbw38, cbw38_0, fbw38_0⟩ := Vbw38.out.open1
      obtain ⟨luw38, cuw38_0, fuw38_0⟩ := Vuw38.out.open1
      clear law38 caw38_0 faw38_0 lbw38 cbw38_0 fbw38_0 luw38 cuw38_0 fuw38_0
      have Vvw38 := Lib.hid VVw38
      have tw38 := Vvw38.out.lt
      have Ivw38 := Lib.hid IIw38
      clear VVw38 IIw38
      obtain ⟨law38, caw38_0, faw38_0⟩ := Vaw38.out.open1
      obtain ⟨lbw38, cbw38_0, fbw38_0⟩ := Vbw38.out.open1
      obtain ⟨luw38, cuw38_0, fuw38_0⟩ := Vuw38.out.open1
      obtain ⟨lvw38, cvw38_0, fvw38_0⟩ := Vvw38.out.open1
      go_wp2_with fail
      refine (implUnionOf _ _ _ _ _ _ za zb _ Raw38.out Rbw38.out La.out Lb.out (by omega) (by omega)).mono ?_
      rintro e w39 ⟨Aw39, kw39, rfl, Ow39, hbw39⟩
      have Pw39 := Lib.hid Ow39
      clear Ow39
      clear law38 caw38_0 faw38_0 lbw38 cbw38_0 fbw38_0 luw38 cuw38_0 fuw38_0 lvw38 cvw38_0 fvw38_0
      have bbw39 := Lib.hid (later bbw38.out hbw39)
      have hzw39 := hbw39.size
      have Vaw39 := Lib.hid (Vaw38.out.step hbw39)
      have Vbw39 := Lib.hid (Vbw38.out.step hbw39)
      have Vuw39 := Lib.hid (Vuw38.out.step hbw39)
      have Vvw39 := Lib.hid (Vvw38.out.step hbw39)
      have Iuw39 : Hid _ := Lib.hid (Iuw38.out.step hbw39)
      have Ivw39 : Hid _ := Lib.hid (Ivw38.out.step hbw39)
      have Raw39 : Hid _ := Lib.hid (Raw38.out.below hbw39)
      have Rbw39 : Hid _ := Lib.hid (Rbw38.out.below hbw39)
      clear Vaw38
      clear Vbw38
      clear Vuw38
      clear Vvw38
      clear Iuw38
      clear Ivw38
      clear Raw38
      clear Rbw38
      obtain ⟨law39, caw39_0, faw39_0⟩ := Vaw39.out.open1
      obtain ⟨lbw39, cbw39_0, fbw39_0⟩ := Vbw39.out.open1
      obtain ⟨luw39, cuw39_0, fuw39_0⟩ := Vuw39.out.open1
      obtain ⟨lvw39, cvw39_0, fvw39_0⟩ := Vvw39.out.open1
      have Iww39 := Pw39
      clear Pw39
      go_wp2_with fail
      clear law39 caw39_0 faw39_0 lbw39 cbw39_0 fbw39_0 luw39 cuw39_0 fuw39_0 lvw39 cvw39_0 fvw39_0
      have Vaw40 := Lib.hid ((Vaw39.out).alloc (.cells #[.slice Aw39 (Pl.unionOf za zb).length kw39] 29 (0, 0)))
      have Vbw40 := Lib.hid ((Vbw39.out).alloc (.cells #[.slice Aw39 (Pl.unionOf za zb).length kw39] 29 (0, 0)))
      have Vuw40 := Lib.hid ((Vuw39.out).alloc (.cells #[.slice Aw39 (Pl.unionOf za zb).length kw39] 29 (0, 0)))
      have Vvw40 := Lib.hid ((Vvw39.out).alloc (.cells #[.slice Aw39 (Pl.unionOf za zb).length kw39] 29 (0, 0)))
      have Iuw40 : Hid _ := Lib.hid ((Iuw39.out).alloc (.cells #[.slice Aw39 (Pl.unionOf za zb).length kw39] 29 (0, 0)))
      have Ivw40 : Hid _ := Lib.hid ((Ivw39.out).alloc (.cells #[.slice Aw39 (Pl.unionOf za zb).length kw39] 29 (0, 0)))
      have Iww40 : Hid _ := Lib.hid ((Iww39.out).alloc (.cells #[.slice Aw39 (Pl.unionOf za zb).length kw39] 29 (0, 0)))
      have Vww40 := Lib.hid (VB.new (w := w39) (b := w39.heap.size) (t := 29) (cs := [.slice Aw39 (Pl.unionOf za zb).length kw39]) (by simp))
      have hbw40 : Below w39.heap.size w39 (w39.alloc (.cells #[.slice Aw39 (Pl.unionOf za zb).length kw39] 29 (0, 0))) := by go_grown
      have bbw40 : Hid (Below w.heap.size w (w39.alloc (.cells #[.slice Aw39 (Pl.unionOf za zb).length kw39] 29 (0, 0)))) := Lib.hid (later bbw39.out hbw40)
      have hzw40 : w39.heap.size + 1 ≤ (w39.alloc (.cells #[.slice Aw39 (Pl.unionOf za zb).length kw39] 29 (0, 0))).heap.size := by simp
      have Raw40 : Hid _ := Lib.hid (Raw39.out.below hbw40)
      have Rbw40 : Hid _ := Lib.hid (Rbw39.out.below hbw40)
      generalize (w39.alloc (.cells #[.slice Aw39 (Pl.unionOf za zb).length kw39] 29 (0, 0))) = w40 at *
      obtain ⟨law40, caw40_0, faw40_0⟩ := Vaw40.out.open1
      obtain ⟨lbw40, cbw40_0, fbw40_0⟩ := Vbw40.out.open1
      obtain ⟨luw40, cuw40_0, fuw40_0⟩ := Vuw40.out.open1
      obtain ⟨lvw40, cvw40_0, fvw40_0⟩ := Vvw40.out.open1
      obtain ⟨lww40, cww40_0, fww40_0⟩ := Vww40.out.open1
      refine (implBoundsOf _ _ _ (Pl.unionOf za zb) _ (Recs.arg Iww40.out) rfl (by omega)).mono ?_
      rintro e w41 ⟨rfl, hbw41⟩
      clear law40 caw40_0 faw40_0 lbw40 cbw40_0 fbw40_0 luw40 cuw40_0 fuw40_0 lvw40 cvw40_0 fvw40_0 lww40 cww40_0 fww40_0
      have bbw41 := Lib.hid (later bbw40.out hbw41)
      have hzw41 := hbw41.size
      have Vaw41 := Lib.hid (Vaw40.out.step hbw41)
      have Vbw41 := Lib.hid (Vbw40.out.step hbw41)
      have Vuw41 := Lib.hid (Vuw40.out.step hbw41)
      have Vvw41 := Lib.hid (Vvw40.out.step hbw41)
      have Vww41 := Lib.hid (Vww40.out.step hbw41)
      have Iuw41 : Hid _ := Lib.hid (Iuw40.out.step hbw41)
      have Ivw41 : Hid _ := Lib.hid (Ivw40.out.step hbw41)
      have Iww41 : Hid _ := Lib.hid (Iww40.out.step hbw41)
      have Raw41 : Hid _ := Lib.hid (Raw40.out.below hbw41)
      have Rbw41 : Hid _ := Lib.hid (Rbw40.out.below hbw41)
      clear Vaw40
      clear Vbw40
      clear Vuw40
      clear Vvw40
      clear Vww40
      clear Iuw40
      clear Ivw40
      clear Iww40
      clear Raw40
      clear Rbw40
      obtain ⟨law41, caw41_0, faw41_0⟩ := Vaw41.out.open1
      obtain ⟨lbw41, cbw41_0, fbw41_0⟩ := Vbw41.out.open1
      obtain ⟨luw41, cuw41_0, fuw41_0⟩ := Vuw41.out.open1
      obtain ⟨lvw41, cvw41_0, fvw41_0⟩ := Vvw41.out.open1
      obtain ⟨lww41, cww41_0, fww41_0⟩ := Vww41.out.open1
      go_wp2_with fail
      clear law41 caw41_0 faw41_0 lbw41 cbw41_0 fbw41_0 luw41 cuw41_0 fuw41_0 lvw41 cvw41_0 fvw41_0 lww41 cww41_0 fww41_0
      have Vaw42 := Lib.hid ((Vaw41.out).alloc (.cells #[.int .i64 (Pl.boundsOf (Pl.unionOf za zb)).x, .int .i64 (Pl.boundsOf (Pl.unionOf za zb)).y, .int .i64 (Pl.boundsOf (Pl.unionOf za zb)).w, .int .i64 (Pl.boundsOf (Pl.unionOf za zb)).h] 44 (0, 0)))
      have Vbw42 := Lib.hid ((Vbw41.out).alloc (.cells #[.int .i64 (Pl.boundsOf (Pl.unionOf za zb)).x, .int .i64 (Pl.boundsOf (Pl.unionOf za zb)).y, .int .i64 (Pl.boundsOf (Pl.unionOf za zb)).w, .int .i64 (Pl.boundsOf (Pl.unionOf za zb)).h] 44 (0, 0)))
      have Vuw42 := Lib.hid ((Vuw41.out).alloc (.cells #[.int .i64 (Pl.boundsOf (Pl.unionOf za zb)).x, .int .i64 (Pl.boundsOf (Pl.unionOf za zb)).y, .int .i64 (Pl.boundsOf (Pl.unionOf za zb)).w, .int .i64 (Pl.boundsOf (Pl.unionOf za zb)).h] 44 (0, 0)))
      have Vvw42 := Lib.hid ((Vvw41.out).alloc (.cells #[.int .i64 (Pl.boundsOf (Pl.unionOf za zb)).x, .int .i64 (Pl.boundsOf (Pl.unionOf za zb)).y, .int .i64 (Pl.boundsOf (Pl.unionOf za zb)).w, .int .i64 (Pl.boundsOf (Pl.unionOf za zb)).h] 44 (0, 0)))
      have Vww42 := Lib.hid ((Vww41.out).alloc (.cells #[.int .i64 (Pl.boundsOf (Pl.unionOf za zb)).x, .int .i64 (Pl.boundsOf (Pl.unionOf za zb)).y, .int .i64 (Pl.boundsOf (Pl.unionOf za zb)).w, .int .i64 (Pl.boundsOf (Pl.unionOf za zb)).h] 44 (0, 0)))
      have Iuw42 : Hid _ := Lib.hid ((Iuw41.out).alloc (.cells #[.int .i64 (Pl.boundsOf (Pl.unionOf za zb)).x, .int .i64 (Pl.boundsOf (Pl.unionOf za zb)).y, .int .i64 (Pl.boundsOf (Pl.unionOf za zb)).w, .int .i64 (Pl.boundsOf (Pl.unionOf za zb)).h] 44 (0, 0)))
      have Ivw42 : Hid _ := Lib.hid ((Ivw41.out).alloc (.cells #[.int .i64 (Pl.boundsOf (Pl.unionOf za zb)).x, .int .i64 (Pl.boundsOf (Pl.unionOf za zb)).y, .int .i64 (Pl.boundsOf (Pl.unionOf za zb)).w, .int .i64 (Pl.boundsOf (Pl.unionOf za zb)).h] 44 (0, 0)))
      have Iww42 : Hid _ := Lib.hid ((Iww41.out).alloc (.cells #[.int .i64 (Pl.boundsOf (Pl.unionOf za zb)).x, .int .i64 (Pl.boundsOf (Pl.unionOf za zb)).y, .int .i64 (Pl.boundsOf (Pl.unionOf za zb)).w, .int .i64 (Pl.boundsOf (Pl.unionOf za zb)).h] 44 (0, 0)))
      have Vrw42 := Lib.hid (VB.new (w := w41) (b := w41.heap.size) (t := 44) (cs := [.int .i64 (Pl.boundsOf (Pl.unionOf za zb)).x,.int .i64 (Pl.boundsOf (Pl.unionOf za zb)).y,.int .i64 (Pl.boundsOf (Pl.unionOf za zb)).w,.int .i64 (Pl.boundsOf (Pl.unionOf za zb)).h]) (by simp))
      have hbw42 : Below w41.heap.size w41 (w41.alloc (.cells #[.int .i64 (Pl.boundsOf (Pl.unionOf za zb)).x, .int .i64 (Pl.boundsOf (Pl.unionOf za zb)).y, .int .i64 (Pl.boundsOf (Pl.unionOf za zb)).w, .int .i64 (Pl.boundsOf (Pl.unionOf za zb)).h] 44 (0, 0))) := by go_grown
      have bbw42 : Hid (Below w.heap.size w (w41.alloc (.cells #[.int .i64 (Pl.boundsOf (Pl.unionOf za zb)).x, .int .i64 (Pl.boundsOf (Pl.unionOf za zb)).y, .int .i64 (Pl.boundsOf (Pl.unionOf za zb)).w, .int .i64 (Pl.boundsOf (Pl.unionOf za zb)).h] 44 (0, 0)))) := Lib.hid (later bbw41.out hbw42)
      have hzw42 : w41.heap.size + 1 ≤ (w41.alloc (.cells #[.int .i64 (Pl.boundsOf (Pl.unionOf za zb)).x, .int .i64 (Pl.boundsOf (Pl.unionOf za zb)).y, .int .i64 (Pl.boundsOf (Pl.unionOf za zb)).w, .int .i64 (Pl.boundsOf (Pl.unionOf za zb)).h] 44 (0, 0))).heap.size := by simp
      have Raw42 : Hid _ := Lib.hid (Raw41.out.below hbw42)
      have Rbw42 : Hid _ := Lib.hid (Rbw41.out.below hbw42)
      generalize (w41.alloc (.cells #[.int .i64 (Pl.boundsOf (Pl.unionOf za zb)).x, .int .i64 (Pl.boundsOf (Pl.unionOf za zb)).y, .int .i64 (Pl.boundsOf (Pl.unionOf za zb)).w, .int .i64 (Pl.boundsOf (Pl.unionOf za zb)).h] 44 (0, 0))) = w42 at *
      obtain ⟨law42, caw42_0, faw42_0⟩ := Vaw42.out.open1
      obtain ⟨lbw42, cbw42_0, fbw42_0⟩ := Vbw42.out.open1
      obtain ⟨luw42, cuw42_0, fuw42_0⟩ := Vuw42.out.open1
      obtain ⟨lvw42, cvw42_0, fvw42_0⟩ := Vvw42.out.open1
      obtain ⟨lww42, cww42_0, fww42_0⟩ := Vww42.out.open1
      obtain ⟨lrw42, crw42_0, crw42_1, crw42_2, crw42_3, frw42_0, frw42_1, frw42_2, frw42_3⟩ := Vrw42.out.open4
      generalize hnw : (Pl.unionOf za zb).length = nw at *
      have Lw := Lib.hid hnw
      clear hnw
      go_loopw [9] (fun sk wr => ∃ k : Nat, k ≤ nw ∧ sk = .int .i64 k ∧ Hid (Below w42.heap.size w42 wr)) (fun sk _ => nw - (intOf sk).toNat)
      case atStart => exact ⟨0, by omega, rfl, Lib.hid (Below.refl _ _)⟩
      case round =>
        obtain ⟨w43, rfl⟩ : ∃ w43 : World, w43 = wr := ⟨_, rfl⟩
        obtain ⟨k, hk, rfl, hB⟩ := hrel
        have hbw43 := hB.out
        clear hB
        clear law42 caw42_0 faw42_0 lbw42 cbw42_0 fbw42_0 luw42 cuw42_0 fuw42_0 lvw42 cvw42_0 fvw42_0 lww42 cww42_0 fww42_0 lrw42 crw42_0 crw42_1 crw42_2 crw42_3 frw42_0 frw42_1 frw42_2 frw42_3
        have bbw43 := Lib.hid (later bbw42.out hbw43)
        have hzw43 := hbw43.size
        have Vaw43 := Lib.hid (Vaw42.out.step hbw43)
        have Vbw43 := Lib.hid (Vbw42.out.step hbw43)
        have Vuw43 := Lib.hid (Vuw42.out.step hbw43)
        have Vvw43 := Lib.hid (Vvw42.out.step hbw43)
        have Vww43 := Lib.hid (Vww42.out.step hbw43)
        have Vrw43 := Lib.hid (Vrw42.out.step hbw43)
        have Iuw43 : Hid _ := Lib.hid (Iuw42.out.step hbw43)
        have Ivw43 : Hid _ := Lib.hid (Ivw42.out.step hbw43)
        have Iww43 : Hid _ := Lib.hid (Iww42.out.step hbw43)
        have Raw43 : Hid _ := Lib.hid (Raw42.out.below hbw43)
        have Rbw43 : Hid _ := Lib.hid (Rbw42.out.below hbw43)
        clear Vaw42
        clear Vbw42
        clear Vuw42
        clear Vvw42
        clear Vww42
        clear Vrw42
        clear Iuw42
        clear Ivw42
        clear Iww42
        clear Raw42
        clear Rbw42
        obtain ⟨law43, caw43_0, faw43_0⟩ := Vaw43.out.open1
        obtain ⟨lbw43, cbw43_0, fbw43_0⟩ := Vbw43.out.open1
        obtain ⟨luw43, cuw43_0, fuw43_0⟩ := Vuw43.out.open1
        obtain ⟨lvw43, cvw43_0, fvw43_0⟩ := Vvw43.out.open1
        obtain ⟨lww43, cww43_0, fww43_0⟩ := Vww43.out.open1
        obtain ⟨lrw43, crw43_0, crw43_1, crw43_2, crw43_3, frw43_0, frw43_1, frw43_2, frw43_3⟩ := Vrw43.out.open4
        have kp0 : (0 : Int) ≤ (k : Int) := Int.natCast_nonneg _
        by_cases hlt : k < nw
        · have kp1 : (k : Int) < nw := by omega
          obtain ⟨g1, o1, z9, eA, lg, hz, p0, p1, p2, p3⟩ := (Recs.arg Iww43.out).at_ Lw.out hlt
          subst eA
          have hcov := Pl.bounds_cover okw hz
          clear hz
          go_wp2_with fail
          clear law43 caw43_0 faw43_0 lbw43 cbw43_0 fbw43_0 luw43 cuw43_0 fuw43_0 lvw43 cvw43_0 fvw43_0 lww43 cww43_0 fww43_0 lrw43 crw43_0 crw43_1 crw43_2 crw43_3 frw43_0 frw43_1 frw43_2 frw43_3
          have bbw44 : Hid (Below w.heap.size w w43.drew) := Lib.hid (Below.drew bbw43.out)
          have hzw44 : w43.heap.size ≤ w43.drew.heap.size := Nat.le_refl _
          have Vaw44 := Lib.hid (VB.drew Vaw43.out)
          have Vbw44 := Lib.hid (VB.drew Vbw43.out)
          have Vuw44 := Lib.hid (VB.drew Vuw43.out)
          have Vvw44 := Lib.hid (VB.drew Vvw43.out)
          have Vww44 := Lib.hid (VB.drew Vww43.out)
          have Vrw44 := Lib.hid (VB.drew Vrw43.out)
          have Iuw44 : Hid _ := Lib.hid (show Recs w43.drew _ _ _ _ from Iuw43.out)
          have Ivw44 : Hid _ := Lib.hid (show Recs w43.drew _ _ _ _ from Ivw43.out)
          have Iww44 : Hid _ := Lib.hid (show Recs w43.drew _ _ _ _ from Iww43.out)
          have Raw44 : Hid _ := Lib.hid (show RArg w43.drew _ _ from Raw43.out)
          have Rbw44 : Hid _ := Lib.hid (show RArg w43.drew _ _ from Rbw43.out)
          refine regionL (S := (fun w' => VB w' (w41.heap.size) [.int .i64 (Pl.boundsOf (Pl.unionOf za zb)).x, .int .i64 (Pl.boundsOf (Pl.unionOf za zb)).y, .int .i64 (Pl.boundsOf (Pl.unionOf za zb)).w, .int .i64 (Pl.boundsOf (Pl.unionOf za zb)).h] ∧ VB w' (w39.heap.size) [.slice (some ⟨g1, o1, none⟩) nw kw39] ∧ w'.cell? ⟨g1, o1 + k * 4, none⟩ = some (.int .i64 z9.x) ∧ w'.cell? ⟨g1, o1 + k * 4 + 1, none⟩ = some (.int .i64 z9.y) ∧ w'.cell? ⟨g1, o1 + k * 4 + 2, none⟩ = some (.int .i64 z9.w) ∧ w'.cell? ⟨g1, o1 + k * 4 + 3, none⟩ = some (.int .i64 z9.h))) (L := 8) (by kernel_rfl) ?_ (fun hHeld => ?_)
          · (first | exact ⟨VB.step (hHeld.1) B9, VB.step (hHeld.2.1) B9, ((keepc B9 g1 (by first | omega | (simp; omega))).1 _).trans (hHeld.2.2.1), ((keepc B9 g1 (by first | omega | (simp; omega))).1 _).trans (hHeld.2.2.2.1), ((keepc B9 g1 (by first | omega | (simp; omega))).1 _).trans (hHeld.2.2.2.2.1), ((keepc B9 g1 (by first | omega | (simp; omega))).1 _).trans (hHeld.2.2.2.2.2)⟩ | exact ⟨VB.step (hHeld.1) B9, VB.step (hHeld.2.1) B9, VB.step (hHeld.2.2.1) B9, VB.step (hHeld.2.2.2.1) B9, VB.step (hHeld.2.2.2.2.1) B9, VB.step (hHeld.2.2.2.2.2) B9⟩ | exact ⟨VB.alloc (hHeld.1) _, VB.alloc (hHeld.2.1) _, VB.alloc (hHeld.2.2.1) _, VB.alloc (hHeld.2.2.2.1) _, VB.alloc (hHeld.2.2.2.2.1) _, VB.alloc (hHeld.2.2.2.2.2) _⟩ | exact ⟨VB.drew (VB.alloc (show VB w43 _ _ from hHeld.1) _), VB.drew (VB.alloc (show VB w43 _ _ from hHeld.2.1) _), VB.drew (VB.alloc (show VB w43 _ _ from hHeld.2.2.1) _), VB.drew (VB.alloc (show VB w43 _ _ from hHeld.2.2.2.1) _), VB.drew (VB.alloc (show VB w43 _ _ from hHeld.2.2.2.2.1) _), VB.drew (VB.alloc (show VB w43 _ _ from hHeld.2.2.2.2.2) _)⟩ | exact ⟨VB.drew Vrw43.out, VB.drew Vww43.out, p0, p1, p2, p3⟩)
          refine takeL (i := 0) (oi := ?_) (v := ?_) ?_ (by kernel_rfl) (by kernel_rfl) (by kernel_rfl) (by kernel_rfl) ?_ (Or.inl ⟨?_, ?_⟩) (by assumption) ?_
          rotate_left 2
          · (simp only [List.getElem?_toArray, List.getElem?_cons_succ, List.getElem?_cons_zero]; rfl)
          · exact fun _ _ _ h => h
          · rfl
          · (intro w hSw; (try dsimp only at hSw); obtain ⟨S0, S1, S2, S3, S4, S5⟩ := hSw; obtain ⟨l0S, c0S0, c0S1, c0S2, c0S3, _⟩ := S0.open4; obtain ⟨l1S, c1S0, _⟩ := S1.open1; clear S0 S1; go_simp; (try with_reducible rfl))
          try simp only [Act.put, List.setIfInBounds_toArray, List.set_cons_zero, List.set_cons_succ]
          refine takeL (i := 1) (oi := ?_) (v := ?_) ?_ (by kernel_rfl) (by kernel_rfl) (by kernel_rfl) (by kernel_rfl) ?_ (Or.inl ⟨?_, ?_⟩) (by assumption) ?_
          rotate_left 2
          · (simp only [List.getElem?_toArray, List.getElem?_cons_succ, List.getElem?_cons_zero]; rfl)
          · exact fun _ _ _ h => h
          · rfl
          · (intro w hSw; (try dsimp only at hSw); obtain ⟨S0, S1, S2, S3, S4, S5⟩ := hSw; obtain ⟨l0S, c0S0, c0S1, c0S2, c0S3, _⟩ := S0.open4; obtain ⟨l1S, c1S0, _⟩ := S1.open1; clear S0 S1; go_simp; (try with_reducible rfl))
          try simp only [Act.put, List.setIfInBounds_toArray, List.set_cons_zero, List.set_cons_succ]
          refine takeL (i := 2) (oi := ?_) (v := ?_) ?_ (by kernel_rfl) (by kernel_rfl) (by kernel_rfl) (by kernel_rfl) ?_ (Or.inl ⟨?_, ?_⟩) (by assumption) ?_
          rotate_left 2
          · (simp only [List.getElem?_toArray, List.getElem?_cons_succ, List.getElem?_cons_zero]; rfl)
          · exact fun _ _ _ h => h
          · rfl
          · (intro w hSw; (try dsimp only at hSw); obtain ⟨S0, S1, S2, S3, S4, S5⟩ := hSw; obtain ⟨l0S, c0S0, c0S1, c0S2, c0S3, _⟩ := S0.open4; obtain ⟨l1S, c1S0, _⟩ := S1.open1; clear S0 S1; go_simp; (try with_reducible rfl))
          try simp only [Act.put, List.setIfInBounds_toArray, List.set_cons_zero, List.set_cons_succ]
          refine takeL (i := 3) (oi := ?_) (v := ?_) ?_ (by kernel_rfl) (by kernel_rfl) (by kernel_rfl) (by kernel_rfl) ?_ (Or.inl ⟨?_, ?_⟩) (by assumption) ?_
          rotate_left 2
          · (simp only [List.getElem?_toArray, List.getElem?_cons_succ, List.getElem?_cons_zero]; rfl)
          · exact fun _ _ _ h => h
          · rfl
          · (intro w hSw; (try dsimp only at hSw); obtain ⟨S0, S1, S2, S3, S4, S5⟩ := hSw; obtain ⟨l0S, c0S0, c0S1, c0S2, c0S3, _⟩ := S0.open4; obtain ⟨l1S, c1S0, _⟩ := S1.open1; clear S0 S1; go_simp; (try with_reducible rfl))
          try simp only [Act.put, List.setIfInBounds_toArray, List.set_cons_zero, List.set_cons_succ]
          refine takeL (i := 4) (oi := ?_) (v := ?_) ?_ (by kernel_rfl) (by kernel_rfl) (by kernel_rfl) (by kernel_rfl) ?_ (Or.inl ⟨?_, ?_⟩) (by assumption) ?_
          rotate_left 2
          · (simp only [List.getElem?_toArray, List.getElem?_cons_succ, List.getElem?_cons_zero]; rfl)
          · exact fun _ _ _ h => h
          · rfl
          · (intro w hSw; (try dsimp only at hSw); obtain ⟨S0, S1, S2, S3, S4, S5⟩ := hSw; obtain ⟨l0S, c0S0, c0S1, c0S2, c0S3, _⟩ := S0.open4; obtain ⟨l1S, c1S0, _⟩ := S1.open1; clear S0 S1; go_simp; (try with_reducible rfl))
          try simp only [Act.put, List.setIfInBounds_toArray, List.set_cons_zero, List.set_cons_succ]
          refine takeL (i := 5) (oi := ?_) (v := ?_) ?_ (by kernel_rfl) (by kernel_rfl) (by kernel_rfl) (by kernel_rfl) ?_ (Or.inl ⟨?_, ?_⟩) (by assumption) ?_
          rotate_left 2
          · (simp only [List.getElem?_toArray, List.getElem?_cons_succ, List.getElem?_cons_zero]; rfl)
          · exact fun _ _ _ h => h
          · rfl
          · (intro w hSw; (try dsimp only at hSw); obtain ⟨S0, S1, S2, S3, S4, S5⟩ := hSw; obtain ⟨l0S, c0S0, c0S1, c0S2, c0S3, _⟩ := S0.open4; obtain ⟨l1S, c1S0, _⟩ := S1.open1; clear S0 S1; go_simp; (try with_reducible rfl))
          try simp only [Act.put, List.setIfInBounds_toArray, List.set_cons_zero, List.set_cons_succ]
          refine readyL (rs := [6]) (by kernel_rfl) (by simp) ?_
          refine AllReadyL.cons (o := ?_) ?_ (fun K hK => ?_) AllReadyL.none_
          rotate_left
          · (simp only [List.getElem?_toArray, List.getElem?_cons_succ, List.getElem?_cons_zero]; rfl)
          go_simp
          go_at_call 42
          ((with_reducible refine (implCovers (Pl.boundsOf (Pl.unionOf za zb)).x (Pl.boundsOf (Pl.unionOf za zb)).y (Pl.boundsOf (Pl.unionOf za zb)).w (Pl.boundsOf (Pl.unionOf za zb)).h z9.x z9.y z9.w z9.h _).mono ?_))
          rw [show (Pl.R.mk (Pl.boundsOf (Pl.unionOf za zb)).x (Pl.boundsOf (Pl.unionOf za zb)).y (Pl.boundsOf (Pl.unionOf za zb)).w (Pl.boundsOf (Pl.unionOf za zb)).h) = (Pl.boundsOf (Pl.unionOf za zb)) from rfl, show (Pl.R.mk z9.x z9.y z9.w z9.h) = z9 from rfl, hcov]
          rintro e w45 ⟨rfl, hbw45⟩
          have bbw45 := Lib.hid (later bbw44.out hbw45)
          have hzw45 := hbw45.size
          have Vaw45 := Lib.hid (Vaw44.out.step hbw45)
          have Vbw45 := Lib.hid (Vbw44.out.step hbw45)
          have Vuw45 := Lib.hid (Vuw44.out.step hbw45)
          have Vvw45 := Lib.hid (Vvw44.out.step hbw45)
          have Vww45 := Lib.hid (Vww44.out.step hbw45)
          have Vrw45 := Lib.hid (Vrw44.out.step hbw45)
          have Iuw45 : Hid _ := Lib.hid (Iuw44.out.step hbw45)
          have Ivw45 : Hid _ := Lib.hid (Ivw44.out.step hbw45)
          have Iww45 : Hid _ := Lib.hid (Iww44.out.step hbw45)
          have Raw45 : Hid _ := Lib.hid (Raw44.out.below hbw45)
          have Rbw45 : Hid _ := Lib.hid (Rbw44.out.below hbw45)
          clear Vaw44
          clear Vbw44
          clear Vuw44
          clear Vvw44
          clear Vww44
          clear Vrw44
          clear Iuw44
          clear Ivw44
          clear Iww44
          clear Raw44
          clear Rbw44
          obtain ⟨law45, caw45_0, faw45_0⟩ := Vaw45.out.open1
          obtain ⟨lbw45, cbw45_0, fbw45_0⟩ := Vbw45.out.open1
          obtain ⟨luw45, cuw45_0, fuw45_0⟩ := Vuw45.out.open1
          obtain ⟨lvw45, cvw45_0, fvw45_0⟩ := Vvw45.out.open1
          obtain ⟨lww45, cww45_0, fww45_0⟩ := Vww45.out.open1
          obtain ⟨lrw45, crw45_0, crw45_1, crw45_2, crw45_3, frw45_0, frw45_1, frw45_2, frw45_3⟩ := Vrw45.out.open4
          have B9 := hbw45
          refine hK.out _ _ ?_ (fun hHeld => ?_)
          · (first | exact ⟨VB.step (hHeld.1) B9, VB.step (hHeld.2.1) B9, ((keepc B9 g1 (by first | omega | (simp; omega))).1 _).trans (hHeld.2.2.1), ((keepc B9 g1 (by first | omega | (simp; omega))).1 _).trans (hHeld.2.2.2.1), ((keepc B9 g1 (by first | omega | (simp; omega))).1 _).trans (hHeld.2.2.2.2.1), ((keepc B9 g1 (by first | omega | (simp; omega))).1 _).trans (hHeld.2.2.2.2.2)⟩ | exact ⟨VB.step (hHeld.1) B9, VB.step (hHeld.2.1) B9, VB.step (hHeld.2.2.1) B9, VB.step (hHeld.2.2.2.1) B9, VB.step (hHeld.2.2.2.2.1) B9, VB.step (hHeld.2.2.2.2.2) B9⟩ | exact ⟨VB.alloc (hHeld.1) _, VB.alloc (hHeld.2.1) _, VB.alloc (hHeld.2.2.1) _, VB.alloc (hHeld.2.2.2.1) _, VB.alloc (hHeld.2.2.2.2.1) _, VB.alloc (hHeld.2.2.2.2.2) _⟩ | exact ⟨VB.drew (VB.alloc (show VB w43 _ _ from hHeld.1) _), VB.drew (VB.alloc (show VB w43 _ _ from hHeld.2.1) _), VB.drew (VB.alloc (show VB w43 _ _ from hHeld.2.2.1) _), VB.drew (VB.alloc (show VB w43 _ _ from hHeld.2.2.2.1) _), VB.drew (VB.alloc (show VB w43 _ _ from hHeld.2.2.2.2.1) _), VB.drew (VB.alloc (show VB w43 _ _ from hHeld.2.2.2.2.2) _)⟩ | exact ⟨VB.drew Vrw43.out, VB.drew Vww43.out, p0, p1, p2, p3⟩)
          clear hK K
          try simp only [Act.put, List.setIfInBounds_toArray, List.set_cons_zero, List.set_cons_succ]
          refine takeL (i := 7) (oi := ?_) (v := ?_) ?_ (by kernel_rfl) (by kernel_rfl) (by kernel_rfl) (by kernel_rfl) ?_ (Or.inl ⟨?_, ?_⟩) (by assumption) ?_
          rotate_left 2
          · (simp only [List.getElem?_toArray, List.getElem?_cons_succ, List.getElem?_cons_zero]; rfl)
          · exact fun _ _ _ h => h
          · rfl
          · (intro w hSw; (try dsimp only at hSw); obtain ⟨S0, S1, S2, S3, S4, S5⟩ := hSw; obtain ⟨l0S, c0S0, c0S1, c0S2, c0S3, _⟩ := S0.open4; obtain ⟨l1S, c1S0, _⟩ := S1.open1; clear S0 S1; go_simp; (try with_reducible rfl))
          try simp only [Act.put, List.setIfInBounds_toArray, List.set_cons_zero, List.set_cons_succ]
          refine doneL (by kernel_rfl) ?_ _
          go_wp2_with fail
          go_roundw
          case rel => exact ⟨k + 1, by omega, by go_num, Lib.hid (hbw43.trans ((Below.drew (Below.refl _ _)).trans (hbw45.mono (by have := hbw43.size; simp; omega))))⟩
          case measure => simp [intOf]; omega
        · obtain rfl : k = nw := by omega
          have hu9 := Pl.unionOf_length za zb
          go_wp2_with fail
          clear law43 caw43_0 faw43_0 lbw43 cbw43_0 fbw43_0 luw43 cuw43_0 fuw43_0 lvw43 cvw43_0 fvw43_0 lww43 cww43_0 fww43_0 lrw43 crw43_0 crw43_1 crw43_2 crw43_3 frw43_0 frw43_1 frw43_2 frw43_3
          have bbw46 : Hid (Below w.heap.size w w43.drew) := Lib.hid (Below.drew bbw43.out)
          have hzw46 : w43.heap.size ≤ w43.drew.heap.size := Nat.le_refl _
          have Vaw46 := Lib.hid (VB.drew Vaw43.out)
          have Vbw46 := Lib.hid (VB.drew Vbw43.out)
          have Vuw46 := Lib.hid (VB.drew Vuw43.out)
          have Vvw46 := Lib.hid (VB.drew Vvw43.out)
          have Vww46 := Lib.hid (VB.drew Vww43.out)
          have Vrw46 := Lib.hid (VB.drew Vrw43.out)
          have Iuw46 : Hid _ := Lib.hid (show Recs w43.drew _ _ _ _ from Iuw43.out)
          have Ivw46 : Hid _ := Lib.hid (show Recs w43.drew _ _ _ _ from Ivw43.out)
          have Iww46 : Hid _ := Lib.hid (show Recs w43.drew _ _ _ _ from Iww43.out)
          have Raw46 : Hid _ := Lib.hid (show RArg w43.drew _ _ from Raw43.out)
          have Rbw46 : Hid _ := Lib.hid (show RArg w43.drew _ _ from Rbw43.out)
          refine regionL (S := (fun w' => VB w' (bkw17) [.slice Aw17 za.length kw17] ∧ VB w' (w1.heap.size) [.slice Aa na ca] ∧ VB w' (bkw38) [.slice Aw38 k kw38] ∧ VB w' (w39.heap.size) [.slice Aw39 k kw39] ∧ VB w' (w1.heap.size + 1) [.slice Ab nb cb])) (L := 34) (by kernel_rfl) ?_ (fun hHeld => ?_)
          · (first | exact ⟨VB.step (hHeld.1) B9, VB.step (hHeld.2.1) B9, VB.step (hHeld.2.2.1) B9, VB.step (hHeld.2.2.2.1) B9, VB.step (hHeld.2.2.2.2) B9⟩ | exact ⟨VB.alloc (hHeld.1) _, VB.alloc (hHeld.2.1) _, VB.alloc (hHeld.2.2.1) _, VB.alloc (hHeld.2.2.2.1) _, VB.alloc (hHeld.2.2.2.2) _⟩ | exact ⟨VB.drew (VB.alloc (show VB w43 _ _ from hHeld.1) _), VB.drew (VB.alloc (show VB w43 _ _ from hHeld.2.1) _), VB.drew (VB.alloc (show VB w43 _ _ from hHeld.2.2.1) _), VB.drew (VB.alloc (show VB w43 _ _ from hHeld.2.2.2.1) _), VB.drew (VB.alloc (show VB w43 _ _ from hHeld.2.2.2.2) _)⟩ | exact ⟨VB.drew Vuw43.out, VB.drew Vaw43.out, VB.drew Vvw43.out, VB.drew Vww43.out, VB.drew Vbw43.out⟩)
          refine takeL (i := 0) (oi := ?_) (v := ?_) ?_ (by kernel_rfl) (by kernel_rfl) (by kernel_rfl) (by kernel_rfl) ?_ (Or.inl ⟨?_, ?_⟩) (by assumption) ?_
          rotate_left 2
          · (simp only [List.getElem?_toArray, List.getElem?_cons_succ, List.getElem?_cons_zero]; rfl)
          · exact fun _ _ _ h => h
          · rfl
          · (intro w hSw; (try dsimp only at hSw); obtain ⟨S0, S1, S2, S3, S4⟩ := hSw; obtain ⟨l0S, c0S0, _⟩ := S0.open1; obtain ⟨l1S, c1S0, _⟩ := S1.open1; obtain ⟨l2S, c2S0, _⟩ := S2.open1; obtain ⟨l3S, c3S0, _⟩ := S3.open1; obtain ⟨l4S, c4S0, _⟩ := S4.open1; clear S0 S1 S2 S3 S4; go_simp; (try with_reducible rfl))
          try simp only [Act.put, List.setIfInBounds_toArray, List.set_cons_zero, List.set_cons_succ]
          refine takeL (i := 1) (oi := ?_) (v := ?_) ?_ (by kernel_rfl) (by kernel_rfl) (by kernel_rfl) (by kernel_rfl) ?_ (Or.inl ⟨?_, ?_⟩) (by assumption) ?_
          rotate_left 2
          · (simp only [List.getElem?_toArray, List.getElem?_cons_succ, List.getElem?_cons_zero]; rfl)
          · exact fun _ _ _ h => h
          · rfl
          · (intro w hSw; (try dsimp only at hSw); obtain ⟨S0, S1, S2, S3, S4⟩ := hSw; obtain ⟨l0S, c0S0, _⟩ := S0.open1; obtain ⟨l1S, c1S0, _⟩ := S1.open1; obtain ⟨l2S, c2S0, _⟩ := S2.open1; obtain ⟨l3S, c3S0, _⟩ := S3.open1; obtain ⟨l4S, c4S0, _⟩ := S4.open1; clear S0 S1 S2 S3 S4; go_simp; (try with_reducible rfl))
          try simp only [Act.put, List.setIfInBounds_toArray, List.set_cons_zero, List.set_cons_succ]
          refine takeL (i := 2) (oi := ?_) (v := ?_) ?_ (by kernel_rfl) (by kernel_rfl) (by kernel_rfl) (by kernel_rfl) ?_ (Or.inl ⟨?_, ?_⟩) (by assumption) ?_
          rotate_left 2
          · (simp only [List.getElem?_toArray, List.getElem?_cons_succ, List.getElem?_cons_zero]; rfl)
          · exact fun _ _ _ h => h
          · rfl
          · (intro w hSw; (try dsimp only at hSw); obtain ⟨S0, S1, S2, S3, S4⟩ := hSw; obtain ⟨l0S, c0S0, _⟩ := S0.open1; obtain ⟨l1S, c1S0, _⟩ := S1.open1; obtain ⟨l2S, c2S0, _⟩ := S2.open1; obtain ⟨l3S, c3S0, _⟩ := S3.open1; obtain ⟨l4S, c4S0, _⟩ := S4.open1; clear S0 S1 S2 S3 S4; go_simp; (try with_reducible rfl))
          try simp only [Act.put, List.setIfInBounds_toArray, List.set_cons_zero, List.set_cons_succ]
          refine takeL (i := 3) (oi := ?_) (v := ?_) ?_ (by kernel_rfl) (by kernel_rfl) (by kernel_rfl) (by kernel_rfl) ?_ (Or.inl ⟨?_, ?_⟩) (by assumption) ?_
          rotate_left 2
          · (simp only [List.getElem?_toArray, List.getElem?_cons_succ, List.getElem?_cons_zero]; rfl)
          · exact fun _ _ _ h => h
          · rfl
          · (intro w hSw; (try dsimp only at hSw); obtain ⟨S0, S1, S2, S3, S4⟩ := hSw; obtain ⟨l0S, c0S0, _⟩ := S0.open1; obtain ⟨l1S, c1S0, _⟩ := S1.open1; obtain ⟨l2S, c2S0, _⟩ := S2.open1; obtain ⟨l3S, c3S0, _⟩ := S3.open1; obtain ⟨l4S, c4S0, _⟩ := S4.open1; clear S0 S1 S2 S3 S4; go_simp; (try with_reducible rfl))
          try simp only [Act.put, List.setIfInBounds_toArray, List.set_cons_zero, List.set_cons_succ]
          refine readyL (rs := [4]) (by kernel_rfl) (by simp) ?_
          refine AllReadyL.cons (o := ?_) ?_ (fun K hK => ?_) AllReadyL.none_
          rotate_left
          · (simp only [List.getElem?_toArray, List.getElem?_cons_succ, List.getElem?_cons_zero]; rfl)
          go_simp
          go_at_call 43
          ((with_reducible refine (sameRects_same _ _ _ _ _ _ za _ (Recs.arg Iuw46.out) Raw46.out rfl La.out (by omega) (by omega)).mono ?_))
          rintro e w47 ⟨rfl, hbw47⟩
          have bbw47 := Lib.hid (later bbw46.out hbw47)
          have hzw47 := hbw47.size
          have Vaw47 := Lib.hid (Vaw46.out.step hbw47)
          have Vbw47 := Lib.hid (Vbw46.out.step hbw47)
          have Vuw47 := Lib.hid (Vuw46.out.step hbw47)
          have Vvw47 := Lib.hid (Vvw46.out.step hbw47)
          have Vww47 := Lib.hid (Vww46.out.step hbw47)
          have Vrw47 := Lib.hid (Vrw46.out.step hbw47)
          have Iuw47 : Hid _ := Lib.hid (Iuw46.out.step hbw47)
          have Ivw47 : Hid _ := Lib.hid (Ivw46.out.step hbw47)
          have Iww47 : Hid _ := Lib.hid (Iww46.out.step hbw47)
          have Raw47 : Hid _ := Lib.hid (Raw46.out.below hbw47)
          have Rbw47 : Hid _ := Lib.hid (Rbw46.out.below hbw47)
          clear Vaw46
          clear Vbw46
          clear Vuw46
          clear Vvw46
          clear Vww46
          clear Vrw46
          clear Iuw46
          clear Ivw46
          clear Iww46
          clear Raw46
          clear Rbw46
          obtain ⟨law47, caw47_0, faw47_0⟩ := Vaw47.out.open1
          obtain ⟨lbw47, cbw47_0, fbw47_0⟩ := Vbw47.out.open1
          obtain ⟨luw47, cuw47_0, fuw47_0⟩ := Vuw47.out.open1
          obtain ⟨lvw47, cvw47_0, fvw47_0⟩ := Vvw47.out.open1
          obtain ⟨lww47, cww47_0, fww47_0⟩ := Vww47.out.open1
          obtain ⟨lrw47, crw47_0, crw47_1, crw47_2, crw47_3, frw47_0, frw47_1, frw47_2, frw47_3⟩ := Vrw47.out.open4
          have B9 := hbw47
          refine hK.out _ _ ?_ (fun hHeld => ?_)
          · (first | exact ⟨VB.step (hHeld.1) B9, VB.step (hHeld.2.1) B9, VB.step (hHeld.2.2.1) B9, VB.step (hHeld.2.2.2.1) B9, VB.step (hHeld.2.2.2.2) B9⟩ | exact ⟨VB.alloc (hHeld.1) _, VB.alloc (hHeld.2.1) _, VB.alloc (hHeld.2.2.1) _, VB.alloc (hHeld.2.2.2.1) _, VB.alloc (hHeld.2.2.2.2) _⟩ | exact ⟨VB.drew (VB.alloc (show VB w43 _ _ from hHeld.1) _), VB.drew (VB.alloc (show VB w43 _ _ from hHeld.2.1) _), VB.drew (VB.alloc (show VB w43 _ _ from hHeld.2.2.1) _), VB.drew (VB.alloc (show VB w43 _ _ from hHeld.2.2.2.1) _), VB.drew (VB.alloc (show VB w43 _ _ from hHeld.2.2.2.2) _)⟩ | exact ⟨VB.drew Vuw43.out, VB.drew Vaw43.out, VB.drew Vvw43.out, VB.drew Vww43.out, VB.drew Vbw43.out⟩)
          clear hK K
          try simp only [Act.put, List.setIfInBounds_toArray, List.set_cons_zero, List.set_cons_succ]
          refine takeL (i := 5) (oi := ?_) (v := ?_) ?_ (by kernel_rfl) (by kernel_rfl) (by kernel_rfl) (by kernel_rfl) ?_ (Or.inl ⟨?_, ?_⟩) (by assumption) ?_
          rotate_left 2
          · (simp only [List.getElem?_toArray, List.getElem?_cons_succ, List.getElem?_cons_zero]; rfl)
          · exact fun _ _ _ h => h
          · rfl
          · (intro w hSw; (try dsimp only at hSw); obtain ⟨S0, S1, S2, S3, S4⟩ := hSw; obtain ⟨l0S, c0S0, _⟩ := S0.open1; obtain ⟨l1S, c1S0, _⟩ := S1.open1; obtain ⟨l2S, c2S0, _⟩ := S2.open1; obtain ⟨l3S, c3S0, _⟩ := S3.open1; obtain ⟨l4S, c4S0, _⟩ := S4.open1; clear S0 S1 S2 S3 S4; go_simp; (try with_reducible rfl))
          try simp only [Act.put, List.setIfInBounds_toArray, List.set_cons_zero, List.set_cons_succ]
          refine takeL (i := 6) (oi := ?_) (v := ?_) ?_ (by kernel_rfl) (by kernel_rfl) (by kernel_rfl) (by kernel_rfl) ?_ (Or.inl ⟨?_, ?_⟩) (by assumption) ?_
          rotate_left 2
          · (simp only [List.getElem?_toArray, List.getElem?_cons_succ, List.getElem?_cons_zero]; rfl)
          · exact fun _ _ _ h => h
          · rfl
          · (intro w hSw; (try dsimp only at hSw); obtain ⟨S0, S1, S2, S3, S4⟩ := hSw; obtain ⟨l0S, c0S0, _⟩ := S0.open1; obtain ⟨l1S, c1S0, _⟩ := S1.open1; obtain ⟨l2S, c2S0, _⟩ := S2.open1; obtain ⟨l3S, c3S0, _⟩ := S3.open1; obtain ⟨l4S, c4S0, _⟩ := S4.open1; clear S0 S1 S2 S3 S4; go_simp; (try with_reducible rfl))
          try simp only [Act.put, List.setIfInBounds_toArray, List.set_cons_zero, List.set_cons_succ]
          refine takeL (i := 7) (oi := ?_) (v := ?_) ?_ (by kernel_rfl) (by kernel_rfl) (by kernel_rfl) (by kernel_rfl) ?_ (Or.inl ⟨?_, ?_⟩) (by assumption) ?_
          rotate_left 2
          · (simp only [List.getElem?_toArray, List.getElem?_cons_succ, List.getElem?_cons_zero]; rfl)
          · exact fun _ _ _ h => h
          · rfl
          · (intro w hSw; (try dsimp only at hSw); obtain ⟨S0, S1, S2, S3, S4⟩ := hSw; obtain ⟨l0S, c0S0, _⟩ := S0.open1; obtain ⟨l1S, c1S0, _⟩ := S1.open1; obtain ⟨l2S, c2S0, _⟩ := S2.open1; obtain ⟨l3S, c3S0, _⟩ := S3.open1; obtain ⟨l4S, c4S0, _⟩ := S4.open1; clear S0 S1 S2 S3 S4; go_simp; (try with_reducible rfl))
          try simp only [Act.put, List.setIfInBounds_toArray, List.set_cons_zero, List.set_cons_succ]
          refine takeL (i := 8) (oi := ?_) (v := ?_) ?_ (by kernel_rfl) (by kernel_rfl) (by kernel_rfl) (by kernel_rfl) ?_ (Or.inl ⟨?_, ?_⟩) (by assumption) ?_
          rotate_left 2
          · (simp only [List.getElem?_toArray, List.getElem?_cons_succ, List.getElem?_cons_zero]; rfl)
          · exact fun _ _ _ h => h
          · rfl
          · (intro w hSw; (try dsimp only at hSw); obtain ⟨S0, S1, S2, S3, S4⟩ := hSw; obtain ⟨l0S, c0S0, _⟩ := S0.open1; obtain ⟨l1S, c1S0, _⟩ := S1.open1; obtain ⟨l2S, c2S0, _⟩ := S2.open1; obtain ⟨l3S, c3S0, _⟩ := S3.open1; obtain ⟨l4S, c4S0, _⟩ := S4.open1; clear S0 S1 S2 S3 S4; go_simp; (try with_reducible rfl))
          try simp only [Act.put, List.setIfInBounds_toArray, List.set_cons_zero, List.set_cons_succ]
          refine takeL (i := 9) (oi := ?_) (v := ?_) ?_ (by kernel_rfl) (by kernel_rfl) (by kernel_rfl) (by kernel_rfl) ?_ (Or.inl ⟨?_, ?_⟩) (by assumption) ?_
          rotate_left 2
          · (simp only [List.getElem?_toArray, List.getElem?_cons_succ, List.getElem?_cons_zero]; rfl)
          · exact fun _ _ _ h => h
          · rfl
          · (intro w hSw; (try dsimp only at hSw); obtain ⟨S0, S1, S2, S3, S4⟩ := hSw; obtain ⟨l0S, c0S0, _⟩ := S0.open1; obtain ⟨l1S, c1S0, _⟩ := S1.open1; obtain ⟨l2S, c2S0, _⟩ := S2.open1; obtain ⟨l3S, c3S0, _⟩ := S3.open1; obtain ⟨l4S, c4S0, _⟩ := S4.open1; clear S0 S1 S2 S3 S4; go_simp; (try with_reducible rfl))
          try simp only [Act.put, List.setIfInBounds_toArray, List.set_cons_zero, List.set_cons_succ]
          refine readyL (rs := [10]) (by kernel_rfl) (by simp) ?_
          refine AllReadyL.cons (o := ?_) ?_ (fun K hK => ?_) AllReadyL.none_
          rotate_left
          · (simp only [List.getElem?_toArray, List.getElem?_cons_succ, List.getElem?_cons_zero]; rfl)
          go_simp
          go_at_call 43
          ((with_reducible refine (sameRects_same _ _ _ _ _ _ (Pl.unionOf za zb) _ (Recs.arg Ivw47.out) (Recs.arg Iww47.out) Lw.out Lw.out (by omega) (by omega)).mono ?_))
          rintro e w48 ⟨rfl, hbw48⟩
          clear law47 caw47_0 faw47_0 lbw47 cbw47_0 fbw47_0 luw47 cuw47_0 fuw47_0 lvw47 cvw47_0 fvw47_0 lww47 cww47_0 fww47_0 lrw47 crw47_0 crw47_1 crw47_2 crw47_3 frw47_0 frw47_1 frw47_2 frw47_3
          have bbw48 := Lib.hid (later bbw47.out hbw48)
          have hzw48 := hbw48.size
          have Vaw48 := Lib.hid (Vaw47.out.step hbw48)
          have Vbw48 := Lib.hid (Vbw47.out.step hbw48)
          have Vuw48 := Lib.hid (Vuw47.out.step hbw48)
          have Vvw48 := Lib.hid (Vvw47.out.step hbw48)
          have Vww48 := Lib.hid (Vww47.out.step hbw48)
          have Vrw48 := Lib.hid (Vrw47.out.step hbw48)
          have Iuw48 : Hid _ := Lib.hid (Iuw47.out.step hbw48)
          have Ivw48 : Hid _ := Lib.hid (Ivw47.out.step hbw48)
          have Iww48 : Hid _ := Lib.hid (Iww47.out.step hbw48)
          have Raw48 : Hid _ := Lib.hid (Raw47.out.below hbw48)
          have Rbw48 : Hid _ := Lib.hid (Rbw47.out.below hbw48)
          clear Vaw47
          clear Vbw47
          clear Vuw47
          clear Vvw47
          clear Vww47
          clear Vrw47
          clear Iuw47
          clear Ivw47
          clear Iww47
          clear Raw47
          clear Rbw47
          obtain ⟨law48, caw48_0, faw48_0⟩ := Vaw48.out.open1
          obtain ⟨lbw48, cbw48_0, fbw48_0⟩ := Vbw48.out.open1
          obtain ⟨luw48, cuw48_0, fuw48_0⟩ := Vuw48.out.open1
          obtain ⟨lvw48, cvw48_0, fvw48_0⟩ := Vvw48.out.open1
          obtain ⟨lww48, cww48_0, fww48_0⟩ := Vww48.out.open1
          obtain ⟨lrw48, crw48_0, crw48_1, crw48_2, crw48_3, frw48_0, frw48_1, frw48_2, frw48_3⟩ := Vrw48.out.open4
          have B9 := hbw48
          refine hK.out _ _ ?_ (fun hHeld => ?_)
          · (first | exact ⟨VB.step (hHeld.1) B9, VB.step (hHeld.2.1) B9, VB.step (hHeld.2.2.1) B9, VB.step (hHeld.2.2.2.1) B9, VB.step (hHeld.2.2.2.2) B9⟩ | exact ⟨VB.alloc (hHeld.1) _, VB.alloc (hHeld.2.1) _, VB.alloc (hHeld.2.2.1) _, VB.alloc (hHeld.2.2.2.1) _, VB.alloc (hHeld.2.2.2.2) _⟩ | exact ⟨VB.drew (VB.alloc (show VB w43 _ _ from hHeld.1) _), VB.drew (VB.alloc (show VB w43 _ _ from hHeld.2.1) _), VB.drew (VB.alloc (show VB w43 _ _ from hHeld.2.2.1) _), VB.drew (VB.alloc (show VB w43 _ _ from hHeld.2.2.2.1) _), VB.drew (VB.alloc (show VB w43 _ _ from hHeld.2.2.2.2) _)⟩ | exact ⟨VB.drew Vuw43.out, VB.drew Vaw43.out, VB.drew Vvw43.out, VB.drew Vww43.out, VB.drew Vbw43.out⟩)
          clear hK K
          try simp only [Act.put, List.setIfInBounds_toArray, List.set_cons_zero, List.set_cons_succ]
          refine takeL (i := 11) (oi := ?_) (v := ?_) ?_ (by kernel_rfl) (by kernel_rfl) (by kernel_rfl) (by kernel_rfl) ?_ (Or.inl ⟨?_, ?_⟩) (by assumption) ?_
          rotate_left 2
          · (simp only [List.getElem?_toArray, List.getElem?_cons_succ, List.getElem?_cons_zero]; rfl)
          · exact fun _ _ _ h => h
          · rfl
          · (intro w hSw; (try dsimp only at hSw); obtain ⟨S0, S1, S2, S3, S4⟩ := hSw; obtain ⟨l0S, c0S0, _⟩ := S0.open1; obtain ⟨l1S, c1S0, _⟩ := S1.open1; obtain ⟨l2S, c2S0, _⟩ := S2.open1; obtain ⟨l3S, c3S0, _⟩ := S3.open1; obtain ⟨l4S, c4S0, _⟩ := S4.open1; clear S0 S1 S2 S3 S4; go_simp; (try with_reducible rfl))
          try simp only [Act.put, List.setIfInBounds_toArray, List.set_cons_zero, List.set_cons_succ]
          refine takeL (i := 12) (oi := ?_) (v := ?_) ?_ (by kernel_rfl) (by kernel_rfl) (by kernel_rfl) (by kernel_rfl) ?_ (Or.inl ⟨?_, ?_⟩) (by assumption) ?_
          rotate_left 2
          · (simp only [List.getElem?_toArray, List.getElem?_cons_succ, List.getElem?_cons_zero]; rfl)
          · exact fun _ _ _ h => h
          · rfl
          · (intro w hSw; (try dsimp only at hSw); obtain ⟨S0, S1, S2, S3, S4⟩ := hSw; obtain ⟨l0S, c0S0, _⟩ := S0.open1; obtain ⟨l1S, c1S0, _⟩ := S1.open1; obtain ⟨l2S, c2S0, _⟩ := S2.open1; obtain ⟨l3S, c3S0, _⟩ := S3.open1; obtain ⟨l4S, c4S0, _⟩ := S4.open1; clear S0 S1 S2 S3 S4; go_simp; (try with_reducible rfl))
          try simp only [Act.put, List.setIfInBounds_toArray, List.set_cons_zero, List.set_cons_succ]
          refine takeL (i := 13) (oi := ?_) (v := ?_) ?_ (by kernel_rfl) (by kernel_rfl) (by kernel_rfl) (by kernel_rfl) ?_ (Or.inl ⟨?_, ?_⟩) (by assumption) ?_
          rotate_left 2
          · (simp only [List.getElem?_toArray, List.getElem?_cons_succ, List.getElem?_cons_zero]; rfl)
          · exact fun _ _ _ h => h
          · rfl
          · (intro w hSw; (try dsimp only at hSw); obtain ⟨S0, S1, S2, S3, S4⟩ := hSw; obtain ⟨l0S, c0S0, _⟩ := S0.open1; obtain ⟨l1S, c1S0, _⟩ := S1.open1; obtain ⟨l2S, c2S0, _⟩ := S2.open1; obtain ⟨l3S, c3S0, _⟩ := S3.open1; obtain ⟨l4S, c4S0, _⟩ := S4.open1; clear S0 S1 S2 S3 S4; go_simp; (try with_reducible rfl))
          try simp only [Act.put, List.setIfInBounds_toArray, List.set_cons_zero, List.set_cons_succ]
          refine readyL (rs := [14]) (by kernel_rfl) (by simp) ?_
          refine AllReadyL.cons (o := ?_) ?_ (fun K hK => ?_) AllReadyL.none_
          rotate_left
          · (simp only [List.getElem?_toArray, List.getElem?_cons_succ, List.getElem?_cons_zero]; rfl)
          go_simp
          go_at_call 16
          ((with_reducible refine (implRegionOk _ _ _ (Pl.unionOf za zb) _ (Recs.arg Iww48.out) Lw.out (by omega)).mono ?_))
          rw [okw]
          rintro e w49 ⟨rfl, hbw49⟩
          clear law48 caw48_0 faw48_0 lbw48 cbw48_0 fbw48_0 luw48 cuw48_0 fuw48_0 lvw48 cvw48_0 fvw48_0 lww48 cww48_0 fww48_0 lrw48 crw48_0 crw48_1 crw48_2 crw48_3 frw48_0 frw48_1 frw48_2 frw48_3
          have bbw49 := Lib.hid (later bbw48.out hbw49)
          have hzw49 := hbw49.size
          have Vaw49 := Lib.hid (Vaw48.out.step hbw49)
          have Vbw49 := Lib.hid (Vbw48.out.step hbw49)
          have Vuw49 := Lib.hid (Vuw48.out.step hbw49)
          have Vvw49 := Lib.hid (Vvw48.out.step hbw49)
          have Vww49 := Lib.hid (Vww48.out.step hbw49)
          have Vrw49 := Lib.hid (Vrw48.out.step hbw49)
          have Iuw49 : Hid _ := Lib.hid (Iuw48.out.step hbw49)
          have Ivw49 : Hid _ := Lib.hid (Ivw48.out.step hbw49)
          have Iww49 : Hid _ := Lib.hid (Iww48.out.step hbw49)
          have Raw49 : Hid _ := Lib.hid (Raw48.out.below hbw49)
          have Rbw49 : Hid _ := Lib.hid (Rbw48.out.below hbw49)
          clear Vaw48
          clear Vbw48
          clear Vuw48
          clear Vvw48
          clear Vww48
          clear Vrw48
          clear Iuw48
          clear Ivw48
          clear Iww48
          clear Raw48
          clear Rbw48
          obtain ⟨law49, caw49_0, faw49_0⟩ := Vaw49.out.open1
          obtain ⟨lbw49, cbw49_0, fbw49_0⟩ := Vbw49.out.open1
          obtain ⟨luw49, cuw49_0, fuw49_0⟩ := Vuw49.out.open1
          obtain ⟨lvw49, cvw49_0, fvw49_0⟩ := Vvw49.out.open1
          obtain ⟨lww49, cww49_0, fww49_0⟩ := Vww49.out.open1
          obtain ⟨lrw49, crw49_0, crw49_1, crw49_2, crw49_3, frw49_0, frw49_1, frw49_2, frw49_3⟩ := Vrw49.out.open4
          have B9 := hbw49
          refine hK.out _ _ ?_ (fun hHeld => ?_)
          · (first | exact ⟨VB.step (hHeld.1) B9, VB.step (hHeld.2.1) B9, VB.step (hHeld.2.2.1) B9, VB.step (hHeld.2.2.2.1) B9, VB.step (hHeld.2.2.2.2) B9⟩ | exact ⟨VB.alloc (hHeld.1) _, VB.alloc (hHeld.2.1) _, VB.alloc (hHeld.2.2.1) _, VB.alloc (hHeld.2.2.2.1) _, VB.alloc (hHeld.2.2.2.2) _⟩ | exact ⟨VB.drew (VB.alloc (show VB w43 _ _ from hHeld.1) _), VB.drew (VB.alloc (show VB w43 _ _ from hHeld.2.1) _), VB.drew (VB.alloc (show VB w43 _ _ from hHeld.2.2.1) _), VB.drew (VB.alloc (show VB w43 _ _ from hHeld.2.2.2.1) _), VB.drew (VB.alloc (show VB w43 _ _ from hHeld.2.2.2.2) _)⟩ | exact ⟨VB.drew Vuw43.out, VB.drew Vaw43.out, VB.drew Vvw43.out, VB.drew Vww43.out, VB.drew Vbw43.out⟩)
          clear hK K
          try simp only [Act.put, List.setIfInBounds_toArray, List.set_cons_zero, List.set_cons_succ]
          refine takeL (i := 15) (oi := ?_) (v := ?_) ?_ (by kernel_rfl) (by kernel_rfl) (by kernel_rfl) (by kernel_rfl) ?_ (Or.inl ⟨?_, ?_⟩) (by assumption) ?_
          rotate_left 2
          · (simp only [List.getElem?_toArray, List.getElem?_cons_succ, List.getElem?_cons_zero]; rfl)
          · exact fun _ _ _ h => h
          · rfl
          · (intro w hSw; (try dsimp only at hSw); obtain ⟨S0, S1, S2, S3, S4⟩ := hSw; obtain ⟨l0S, c0S0, _⟩ := S0.open1; obtain ⟨l1S, c1S0, _⟩ := S1.open1; obtain ⟨l2S, c2S0, _⟩ := S2.open1; obtain ⟨l3S, c3S0, _⟩ := S3.open1; obtain ⟨l4S, c4S0, _⟩ := S4.open1; clear S0 S1 S2 S3 S4; go_simp; (try with_reducible rfl))
          try simp only [Act.put, List.setIfInBounds_toArray, List.set_cons_zero, List.set_cons_succ]
          refine takeL (i := 16) (oi := ?_) (v := ?_) ?_ (by kernel_rfl) (by kernel_rfl) (by kernel_rfl) (by kernel_rfl) ?_ (Or.inl ⟨?_, ?_⟩) (by assumption) ?_
          rotate_left 2
          · (simp only [List.getElem?_toArray, List.getElem?_cons_succ, List.getElem?_cons_zero]; rfl)
          · exact fun _ _ _ h => h
          · rfl
          · (intro w hSw; (try dsimp only at hSw); obtain ⟨S0, S1, S2, S3, S4⟩ := hSw; obtain ⟨l0S, c0S0, _⟩ := S0.open1; obtain ⟨l1S, c1S0, _⟩ := S1.open1; obtain ⟨l2S, c2S0, _⟩ := S2.open1; obtain ⟨l3S, c3S0, _⟩ := S3.open1; obtain ⟨l4S, c4S0, _⟩ := S4.open1; clear S0 S1 S2 S3 S4; go_simp; (try with_reducible rfl))
          try simp only [Act.put, List.setIfInBounds_toArray, List.set_cons_zero, List.set_cons_succ]
          refine takeL (i := 17) (oi := ?_) (v := ?_) ?_ (by kernel_rfl) (by kernel_rfl) (by kernel_rfl) (by kernel_rfl) ?_ (Or.inl ⟨?_, ?_⟩) (by assumption) ?_
          rotate_left 2
          · (simp only [List.getElem?_toArray, List.getElem?_cons_succ, List.getElem?_cons_zero]; rfl)
          · exact fun _ _ _ h => h
          · rfl
          · (intro w hSw; (try dsimp only at hSw); obtain ⟨S0, S1, S2, S3, S4⟩ := hSw; obtain ⟨l0S, c0S0, _⟩ := S0.open1; obtain ⟨l1S, c1S0, _⟩ := S1.open1; obtain ⟨l2S, c2S0, _⟩ := S2.open1; obtain ⟨l3S, c3S0, _⟩ := S3.open1; obtain ⟨l4S, c4S0, _⟩ := S4.open1; clear S0 S1 S2 S3 S4; go_simp; (try with_reducible rfl))
          try simp only [Act.put, List.setIfInBounds_toArray, List.set_cons_zero, List.set_cons_succ]
          refine takeL (i := 18) (oi := ?_) (v := ?_) ?_ (by kernel_rfl) (by kernel_rfl) (by kernel_rfl) (by kernel_rfl) ?_ (Or.inl ⟨?_, ?_⟩) (by assumption) ?_
          rotate_left 2
          · (simp only [List.getElem?_toArray, List.getElem?_cons_succ, List.getElem?_cons_zero]; rfl)
          · exact fun _ _ _ h => h
          · rfl
          · (intro w hSw; (try dsimp only at hSw); obtain ⟨S0, S1, S2, S3, S4⟩ := hSw; obtain ⟨l0S, c0S0, _⟩ := S0.open1; obtain ⟨l1S, c1S0, _⟩ := S1.open1; obtain ⟨l2S, c2S0, _⟩ := S2.open1; obtain ⟨l3S, c3S0, _⟩ := S3.open1; obtain ⟨l4S, c4S0, _⟩ := S4.open1; clear S0 S1 S2 S3 S4; go_simp; (try with_reducible rfl))
          try simp only [Act.put, List.setIfInBounds_toArray, List.set_cons_zero, List.set_cons_succ]
          refine takeL (i := 21) (oi := ?_) (v := ?_) ?_ (by kernel_rfl) (by kernel_rfl) (by kernel_rfl) (by kernel_rfl) ?_ (Or.inl ⟨?_, ?_⟩) (by assumption) ?_
          rotate_left 2
          · (simp only [List.getElem?_toArray, List.getElem?_cons_succ, List.getElem?_cons_zero]; rfl)
          · exact fun _ _ _ h => h
          · rfl
          · (intro w hSw; (try dsimp only at hSw); obtain ⟨S0, S1, S2, S3, S4⟩ := hSw; obtain ⟨l0S, c0S0, _⟩ := S0.open1; obtain ⟨l1S, c1S0, _⟩ := S1.open1; obtain ⟨l2S, c2S0, _⟩ := S2.open1; obtain ⟨l3S, c3S0, _⟩ := S3.open1; obtain ⟨l4S, c4S0, _⟩ := S4.open1; clear S0 S1 S2 S3 S4; go_simp; (try with_reducible rfl))
          try simp only [Act.put, List.setIfInBounds_toArray, List.set_cons_zero, List.set_cons_succ]
          refine takeL (i := 22) (oi := ?_) (v := ?_) ?_ (by kernel_rfl) (by kernel_rfl) (by kernel_rfl) (by kernel_rfl) ?_ (Or.inl ⟨?_, ?_⟩) (by assumption) ?_
          rotate_left 2
          · (simp only [List.getElem?_toArray, List.getElem?_cons_succ, List.getElem?_cons_zero]; rfl)
          · exact fun _ _ _ h => h
          · rfl
          · (intro w hSw; (try dsimp only at hSw); obtain ⟨S0, S1, S2, S3, S4⟩ := hSw; obtain ⟨l0S, c0S0, _⟩ := S0.open1; obtain ⟨l1S, c1S0, _⟩ := S1.open1; obtain ⟨l2S, c2S0, _⟩ := S2.open1; obtain ⟨l3S, c3S0, _⟩ := S3.open1; obtain ⟨l4S, c4S0, _⟩ := S4.open1; clear S0 S1 S2 S3 S4; go_simp; (try with_reducible rfl))
          try simp only [Act.put, List.setIfInBounds_toArray, List.set_cons_zero, List.set_cons_succ]
          refine readyL (rs := [19]) (by kernel_rfl) (by simp) ?_
          refine AllReadyL.cons (o := ?_) ?_ (fun K hK => ?_) AllReadyL.none_
          rotate_left
          · (simp only [List.getElem?_toArray, List.getElem?_cons_succ, List.getElem?_cons_zero]; rfl)
          go_simp
          go_at_call 34
          ((with_reducible refine (implUnionOf _ _ _ _ _ _ zb za _ Rbw49.out Raw49.out Lb.out La.out (by omega) (by omega)).mono ?_))
          rw [hcomm]
          rintro e w50 ⟨Aw50, kw50, rfl, Ow50, hbw50⟩
          have Pw50 := Lib.hid Ow50
          clear Ow50
          clear law49 caw49_0 faw49_0 lbw49 cbw49_0 fbw49_0 luw49 cuw49_0 fuw49_0 lvw49 cvw49_0 fvw49_0 lww49 cww49_0 fww49_0 lrw49 crw49_0 crw49_1 crw49_2 crw49_3 frw49_0 frw49_1 frw49_2 frw49_3
          have bbw50 := Lib.hid (later bbw49.out hbw50)
          have hzw50 := hbw50.size
          have Vaw50 := Lib.hid (Vaw49.out.step hbw50)
          have Vbw50 := Lib.hid (Vbw49.out.step hbw50)
          have Vuw50 := Lib.hid (Vuw49.out.step hbw50)
          have Vvw50 := Lib.hid (Vvw49.out.step hbw50)
          have Vww50 := Lib.hid (Vww49.out.step hbw50)
          have Vrw50 := Lib.hid (Vrw49.out.step hbw50)
          have Iuw50 : Hid _ := Lib.hid (Iuw49.out.step hbw50)
          have Ivw50 : Hid _ := Lib.hid (Ivw49.out.step hbw50)
          have Iww50 : Hid _ := Lib.hid (Iww49.out.step hbw50)
          have Raw50 : Hid _ := Lib.hid (Raw49.out.below hbw50)
          have Rbw50 : Hid _ := Lib.hid (Rbw49.out.below hbw50)
          clear Vaw49
          clear Vbw49
          clear Vuw49
          clear Vvw49
          clear Vww49
          clear Vrw49
          clear Iuw49
          clear Ivw49
          clear Iww49
          clear Raw49
          clear Rbw49
          obtain ⟨law50, caw50_0, faw50_0⟩ := Vaw50.out.open1
          obtain ⟨lbw50, cbw50_0, fbw50_0⟩ := Vbw50.out.open1
          obtain ⟨luw50, cuw50_0, fuw50_0⟩ := Vuw50.out.open1
          obtain ⟨lvw50, cvw50_0, fvw50_0⟩ := Vvw50.out.open1
          obtain ⟨lww50, cww50_0, fww50_0⟩ := Vww50.out.open1
          obtain ⟨lrw50, crw50_0, crw50_1, crw50_2, crw50_3, frw50_0, frw50_1, frw50_2, frw50_3⟩ := Vrw50.out.open4
          have Itw50 := Pw50
          clear Pw50
          have B9 := hbw50
          refine hK.out _ _ ?_ (fun hHeld => ?_)
          · (first | exact ⟨VB.step (hHeld.1) B9, VB.step (hHeld.2.1) B9, VB.step (hHeld.2.2.1) B9, VB.step (hHeld.2.2.2.1) B9, VB.step (hHeld.2.2.2.2) B9⟩ | exact ⟨VB.alloc (hHeld.1) _, VB.alloc (hHeld.2.1) _, VB.alloc (hHeld.2.2.1) _, VB.alloc (hHeld.2.2.2.1) _, VB.alloc (hHeld.2.2.2.2) _⟩ | exact ⟨VB.drew (VB.alloc (show VB w43 _ _ from hHeld.1) _), VB.drew (VB.alloc (show VB w43 _ _ from hHeld.2.1) _), VB.drew (VB.alloc (show VB w43 _ _ from hHeld.2.2.1) _), VB.drew (VB.alloc (show VB w43 _ _ from hHeld.2.2.2.1) _), VB.drew (VB.alloc (show VB w43 _ _ from hHeld.2.2.2.2) _)⟩ | exact ⟨VB.drew Vuw43.out, VB.drew Vaw43.out, VB.drew Vvw43.out, VB.drew Vww43.out, VB.drew Vbw43.out⟩)
          clear hK K
          try simp only [Act.put, List.setIfInBounds_toArray, List.set_cons_zero, List.set_cons_succ]
          refine takeL (i := 20) (oi := ?_) (v := ?_) ?_ (by kernel_rfl) (by kernel_rfl) (by kernel_rfl) (by kernel_rfl) ?_ (Or.inl ⟨?_, ?_⟩) (by assumption) ?_
          rotate_left 2
          · (simp only [List.getElem?_toArray, List.getElem?_cons_succ, List.getElem?_cons_zero]; rfl)
          · exact fun _ _ _ h => h
          · rfl
          · (intro w hSw; (try dsimp only at hSw); obtain ⟨S0, S1, S2, S3, S4⟩ := hSw; obtain ⟨l0S, c0S0, _⟩ := S0.open1; obtain ⟨l1S, c1S0, _⟩ := S1.open1; obtain ⟨l2S, c2S0, _⟩ := S2.open1; obtain ⟨l3S, c3S0, _⟩ := S3.open1; obtain ⟨l4S, c4S0, _⟩ := S4.open1; clear S0 S1 S2 S3 S4; go_simp; (try with_reducible rfl))
          try simp only [Act.put, List.setIfInBounds_toArray, List.set_cons_zero, List.set_cons_succ]
          refine readyL (rs := [23]) (by kernel_rfl) (by simp) ?_
          refine AllReadyL.cons (o := ?_) ?_ (fun K hK => ?_) AllReadyL.none_
          rotate_left
          · (simp only [List.getElem?_toArray, List.getElem?_cons_succ, List.getElem?_cons_zero]; rfl)
          go_simp
          go_at_call 43
          ((with_reducible refine (sameRects_same _ _ _ _ _ _ (Pl.unionOf za zb) _ (Recs.arg Itw50.out) (Recs.arg Iww50.out) rfl Lw.out (by omega) (by omega)).mono ?_))
          rintro e w51 ⟨rfl, hbw51⟩
          clear law50 caw50_0 faw50_0 lbw50 cbw50_0 fbw50_0 luw50 cuw50_0 fuw50_0 lvw50 cvw50_0 fvw50_0 lww50 cww50_0 fww50_0 lrw50 crw50_0 crw50_1 crw50_2 crw50_3 frw50_0 frw50_1 frw50_2 frw50_3
          have bbw51 := Lib.hid (later bbw50.out hbw51)
          have hzw51 := hbw51.size
          have Vaw51 := Lib.hid (Vaw50.out.step hbw51)
          have Vbw51 := Lib.hid (Vbw50.out.step hbw51)
          have Vuw51 := Lib.hid (Vuw50.out.step hbw51)
          have Vvw51 := Lib.hid (Vvw50.out.step hbw51)
          have Vww51 := Lib.hid (Vww50.out.step hbw51)
          have Vrw51 := Lib.hid (Vrw50.out.step hbw51)
          have Iuw51 : Hid _ := Lib.hid (Iuw50.out.step hbw51)
          have Ivw51 : Hid _ := Lib.hid (Ivw50.out.step hbw51)
          have Iww51 : Hid _ := Lib.hid (Iww50.out.step hbw51)
          have Itw51 : Hid _ := Lib.hid (Itw50.out.step hbw51)
          have Raw51 : Hid _ := Lib.hid (Raw50.out.below hbw51)
          have Rbw51 : Hid _ := Lib.hid (Rbw50.out.below hbw51)
          clear Vaw50
          clear Vbw50
          clear Vuw50
          clear Vvw50
          clear Vww50
          clear Vrw50
          clear Iuw50
          clear Ivw50
          clear Iww50
          clear Itw50
          clear Raw50
          clear Rbw50
          obtain ⟨law51, caw51_0, faw51_0⟩ := Vaw51.out.open1
          obtain ⟨lbw51, cbw51_0, fbw51_0⟩ := Vbw51.out.open1
          obtain ⟨luw51, cuw51_0, fuw51_0⟩ := Vuw51.out.open1
          obtain ⟨lvw51, cvw51_0, fvw51_0⟩ := Vvw51.out.open1
          obtain ⟨lww51, cww51_0, fww51_0⟩ := Vww51.out.open1
          obtain ⟨lrw51, crw51_0, crw51_1, crw51_2, crw51_3, frw51_0, frw51_1, frw51_2, frw51_3⟩ := Vrw51.out.open4
          have B9 := hbw51
          refine hK.out _ _ ?_ (fun hHeld => ?_)
          · (first | exact ⟨VB.step (hHeld.1) B9, VB.step (hHeld.2.1) B9, VB.step (hHeld.2.2.1) B9, VB.step (hHeld.2.2.2.1) B9, VB.step (hHeld.2.2.2.2) B9⟩ | exact ⟨VB.alloc (hHeld.1) _, VB.alloc (hHeld.2.1) _, VB.alloc (hHeld.2.2.1) _, VB.alloc (hHeld.2.2.2.1) _, VB.alloc (hHeld.2.2.2.2) _⟩ | exact ⟨VB.drew (VB.alloc (show VB w43 _ _ from hHeld.1) _), VB.drew (VB.alloc (show VB w43 _ _ from hHeld.2.1) _), VB.drew (VB.alloc (show VB w43 _ _ from hHeld.2.2.1) _), VB.drew (VB.alloc (show VB w43 _ _ from hHeld.2.2.2.1) _), VB.drew (VB.alloc (show VB w43 _ _ from hHeld.2.2.2.2) _)⟩ | exact ⟨VB.drew Vuw43.out, VB.drew Vaw43.out, VB.drew Vvw43.out, VB.drew Vww43.out, VB.drew Vbw43.out⟩)
          clear hK K
          try simp only [Act.put, List.setIfInBounds_toArray, List.set_cons_zero, List.set_cons_succ]
          refine takeL (i := 24) (oi := ?_) (v := ?_) ?_ (by kernel_rfl) (by kernel_rfl) (by kernel_rfl) (by kernel_rfl) ?_ (Or.inl ⟨?_, ?_⟩) (by assumption) ?_
          rotate_left 2
          · (simp only [List.getElem?_toArray, List.getElem?_cons_succ, List.getElem?_cons_zero]; rfl)
          · exact fun _ _ _ h => h
          · rfl
          · (intro w hSw; (try dsimp only at hSw); obtain ⟨S0, S1, S2, S3, S4⟩ := hSw; obtain ⟨l0S, c0S0, _⟩ := S0.open1; obtain ⟨l1S, c1S0, _⟩ := S1.open1; obtain ⟨l2S, c2S0, _⟩ := S2.open1; obtain ⟨l3S, c3S0, _⟩ := S3.open1; obtain ⟨l4S, c4S0, _⟩ := S4.open1; clear S0 S1 S2 S3 S4; go_simp; (try with_reducible rfl))
          try simp only [Act.put, List.setIfInBounds_toArray, List.set_cons_zero, List.set_cons_succ]
          refine takeL (i := 25) (oi := ?_) (v := ?_) ?_ (by kernel_rfl) (by kernel_rfl) (by kernel_rfl) (by kernel_rfl) ?_ (Or.inl ⟨?_, ?_⟩) (by assumption) ?_
          rotate_left 2
          · (simp only [List.getElem?_toArray, List.getElem?_cons_succ, List.getElem?_cons_zero]; rfl)
          · exact fun _ _ _ h => h
          · rfl
          · (intro w hSw; (try dsimp only at hSw); obtain ⟨S0, S1, S2, S3, S4⟩ := hSw; obtain ⟨l0S, c0S0, _⟩ := S0.open1; obtain ⟨l1S, c1S0, _⟩ := S1.open1; obtain ⟨l2S, c2S0, _⟩ := S2.open1; obtain ⟨l3S, c3S0, _⟩ := S3.open1; obtain ⟨l4S, c4S0, _⟩ := S4.open1; clear S0 S1 S2 S3 S4; go_simp; (try with_reducible rfl))
          try simp only [Act.put, List.setIfInBounds_toArray, List.set_cons_zero, List.set_cons_succ]
          refine takeL (i := 26) (oi := ?_) (v := ?_) ?_ (by kernel_rfl) (by kernel_rfl) (by kernel_rfl) (by kernel_rfl) ?_ (Or.inl ⟨?_, ?_⟩) (by assumption) ?_
          rotate_left 2
          · (simp only [List.getElem?_toArray, List.getElem?_cons_succ, List.getElem?_cons_zero]; rfl)
          · exact fun _ _ _ h => h
          · rfl
          · (intro w hSw; (try dsimp only at hSw); obtain ⟨S0, S1, S2, S3, S4⟩ := hSw; obtain ⟨l0S, c0S0, _⟩ := S0.open1; obtain ⟨l1S, c1S0, _⟩ := S1.open1; obtain ⟨l2S, c2S0, _⟩ := S2.open1; obtain ⟨l3S, c3S0, _⟩ := S3.open1; obtain ⟨l4S, c4S0, _⟩ := S4.open1; clear S0 S1 S2 S3 S4; go_simp; (try with_reducible rfl))
          try simp only [Act.put, List.setIfInBounds_toArray, List.set_cons_zero, List.set_cons_succ]
          refine takeL (i := 27) (oi := ?_) (v := ?_) ?_ (by kernel_rfl) (by kernel_rfl) (by kernel_rfl) (by kernel_rfl) ?_ (Or.inl ⟨?_, ?_⟩) (by assumption) ?_
          rotate_left 2
          · (simp only [List.getElem?_toArray, List.getElem?_cons_succ, List.getElem?_cons_zero]; rfl)
          · exact fun _ _ _ h => h
          · rfl
          · (intro w hSw; (try dsimp only at hSw); obtain ⟨S0, S1, S2, S3, S4⟩ := hSw; obtain ⟨l0S, c0S0, _⟩ := S0.open1; obtain ⟨l1S, c1S0, _⟩ := S1.open1; obtain ⟨l2S, c2S0, _⟩ := S2.open1; obtain ⟨l3S, c3S0, _⟩ := S3.open1; obtain ⟨l4S, c4S0, _⟩ := S4.open1; clear S0 S1 S2 S3 S4; go_simp; (try with_reducible rfl))
          try simp only [Act.put, List.setIfInBounds_toArray, List.set_cons_zero, List.set_cons_succ]
          refine readyL (rs := [28]) (by kernel_rfl) (by simp) ?_
          refine AllReadyL.cons (o := ?_) ?_ (fun K hK => ?_) AllReadyL.none_
          rotate_left
          · (simp only [List.getElem?_toArray, List.getElem?_cons_succ, List.getElem?_cons_zero]; rfl)
          go_simp
          go_at_call 38
          ((with_reducible refine (implWithoutOf _ _ _ _ _ _ za za _ Raw51.out Raw51.out La.out La.out (by omega) (by omega)).mono ?_))
          rw [hnone]
          rintro e w52 ⟨Aw52, kw52, rfl, Ow52, hbw52⟩
          have Pw52 := Lib.hid Ow52
          clear Ow52
          clear law51 caw51_0 faw51_0 lbw51 cbw51_0 fbw51_0 luw51 cuw51_0 fuw51_0 lvw51 cvw51_0 fvw51_0 lww51 cww51_0 fww51_0 lrw51 crw51_0 crw51_1 crw51_2 crw51_3 frw51_0 frw51_1 frw51_2 frw51_3
          have bbw52 := Lib.hid (later bbw51.out hbw52)
          have hzw52 := hbw52.size
          have Vaw52 := Lib.hid (Vaw51.out.step hbw52)
          have Vbw52 := Lib.hid (Vbw51.out.step hbw52)
          have Vuw52 := Lib.hid (Vuw51.out.step hbw52)
          have Vvw52 := Lib.hid (Vvw51.out.step hbw52)
          have Vww52 := Lib.hid (Vww51.out.step hbw52)
          have Vrw52 := Lib.hid (Vrw51.out.step hbw52)
          have Iuw52 : Hid _ := Lib.hid (Iuw51.out.step hbw52)
          have Ivw52 : Hid _ := Lib.hid (Ivw51.out.step hbw52)
          have Iww52 : Hid _ := Lib.hid (Iww51.out.step hbw52)
          have Itw52 : Hid _ := Lib.hid (Itw51.out.step hbw52)
          have Raw52 : Hid _ := Lib.hid (Raw51.out.below hbw52)
          have Rbw52 : Hid _ := Lib.hid (Rbw51.out.below hbw52)
          clear Vaw51
          clear Vbw51
          clear Vuw51
          clear Vvw51
          clear Vww51
          clear Vrw51
          clear Iuw51
          clear Ivw51
          clear Iww51
          clear Itw51
          clear Raw51
          clear Rbw51
          obtain ⟨law52, caw52_0, faw52_0⟩ := Vaw52.out.open1
          obtain ⟨lbw52, cbw52_0, fbw52_0⟩ := Vbw52.out.open1
          obtain ⟨luw52, cuw52_0, fuw52_0⟩ := Vuw52.out.open1
          obtain ⟨lvw52, cvw52_0, fvw52_0⟩ := Vvw52.out.open1
          obtain ⟨lww52, cww52_0, fww52_0⟩ := Vww52.out.open1
          obtain ⟨lrw52, crw52_0, crw52_1, crw52_2, crw52_3, frw52_0, frw52_1, frw52_2, frw52_3⟩ := Vrw52.out.open4
          have Isw52 := Pw52
          clear Pw52
          have B9 := hbw52
          refine hK.out _ _ ?_ (fun hHeld => ?_)
          · (first | exact ⟨VB.step (hHeld.1) B9, VB.step (hHeld.2.1) B9, VB.step (hHeld.2.2.1) B9, VB.step (hHeld.2.2.2.1) B9, VB.step (hHeld.2.2.2.2) B9⟩ | exact ⟨VB.alloc (hHeld.1) _, VB.alloc (hHeld.2.1) _, VB.alloc (hHeld.2.2.1) _, VB.alloc (hHeld.2.2.2.1) _, VB.alloc (hHeld.2.2.2.2) _⟩ | exact ⟨VB.drew (VB.alloc (show VB w43 _ _ from hHeld.1) _), VB.drew (VB.alloc (show VB w43 _ _ from hHeld.2.1) _), VB.drew (VB.alloc (show VB w43 _ _ from hHeld.2.2.1) _), VB.drew (VB.alloc (show VB w43 _ _ from hHeld.2.2.2.1) _), VB.drew (VB.alloc (show VB w43 _ _ from hHeld.2.2.2.2) _)⟩ | exact ⟨VB.drew Vuw43.out, VB.drew Vaw43.out, VB.drew Vvw43.out, VB.drew Vww43.out, VB.drew Vbw43.out⟩)
          clear hK K
          try simp only [Act.put, List.setIfInBounds_toArray, List.set_cons_zero, List.set_cons_succ]
          refine takeL (i := 29) (oi := ?_) (v := ?_) ?_ (by kernel_rfl) (by kernel_rfl) (by kernel_rfl) (by kernel_rfl) ?_ (Or.inl ⟨?_, ?_⟩) (by assumption) ?_
          rotate_left 2
          · (simp only [List.getElem?_toArray, List.getElem?_cons_succ, List.getElem?_cons_zero]; rfl)
          · exact fun _ _ _ h => h
          · rfl
          · (intro w hSw; (try dsimp only at hSw); obtain ⟨S0, S1, S2, S3, S4⟩ := hSw; obtain ⟨l0S, c0S0, _⟩ := S0.open1; obtain ⟨l1S, c1S0, _⟩ := S1.open1; obtain ⟨l2S, c2S0, _⟩ := S2.open1; obtain ⟨l3S, c3S0, _⟩ := S3.open1; obtain ⟨l4S, c4S0, _⟩ := S4.open1; clear S0 S1 S2 S3 S4; go_simp; (try with_reducible rfl))
          try simp only [Act.put, List.setIfInBounds_toArray, List.set_cons_zero, List.set_cons_succ]
          refine takeL (i := 30) (oi := ?_) (v := ?_) ?_ (by kernel_rfl) (by kernel_rfl) (by kernel_rfl) (by kernel_rfl) ?_ (Or.inl ⟨?_, ?_⟩) (by assumption) ?_
          rotate_left 2
          · (simp only [List.getElem?_toArray, List.getElem?_cons_succ, List.getElem?_cons_zero]; rfl)
          · exact fun _ _ _ h => h
          · rfl
          · (intro w hSw; (try dsimp only at hSw); obtain ⟨S0, S1, S2, S3, S4⟩ := hSw; obtain ⟨l0S, c0S0, _⟩ := S0.open1; obtain ⟨l1S, c1S0, _⟩ := S1.open1; obtain ⟨l2S, c2S0, _⟩ := S2.open1; obtain ⟨l3S, c3S0, _⟩ := S3.open1; obtain ⟨l4S, c4S0, _⟩ := S4.open1; clear S0 S1 S2 S3 S4; go_simp; (try with_reducible rfl))
          try simp only [Act.put, List.setIfInBounds_toArray, List.set_cons_zero, List.set_cons_succ]
          refine takeL (i := 31) (oi := ?_) (v := ?_) ?_ (by kernel_rfl) (by kernel_rfl) (by kernel_rfl) (by kernel_rfl) ?_ (Or.inl ⟨?_, ?_⟩) (by assumption) ?_
          rotate_left 2
          · (simp only [List.getElem?_toArray, List.getElem?_cons_succ, List.getElem?_cons_zero]; rfl)
          · exact fun _ _ _ h => h
          · rfl
          · (intro w hSw; (try dsimp only at hSw); obtain ⟨S0, S1, S2, S3, S4⟩ := hSw; obtain ⟨l0S, c0S0, _⟩ := S0.open1; obtain ⟨l1S, c1S0, _⟩ := S1.open1; obtain ⟨l2S, c2S0, _⟩ := S2.open1; obtain ⟨l3S, c3S0, _⟩ := S3.open1; obtain ⟨l4S, c4S0, _⟩ := S4.open1; clear S0 S1 S2 S3 S4; go_simp; (try with_reducible rfl))
          try simp only [Act.put, List.setIfInBounds_toArray, List.set_cons_zero, List.set_cons_succ]
          refine takeL (i := 32) (oi := ?_) (v := ?_) ?_ (by kernel_rfl) (by kernel_rfl) (by kernel_rfl) (by kernel_rfl) ?_ (Or.inl ⟨?_, ?_⟩) (by assumption) ?_
          rotate_left 2
          · (simp only [List.getElem?_toArray, List.getElem?_cons_succ, List.getElem?_cons_zero]; rfl)
          · exact fun _ _ _ h => h
          · rfl
          · (intro w hSw; (try dsimp only at hSw); obtain ⟨S0, S1, S2, S3, S4⟩ := hSw; obtain ⟨l0S, c0S0, _⟩ := S0.open1; obtain ⟨l1S, c1S0, _⟩ := S1.open1; obtain ⟨l2S, c2S0, _⟩ := S2.open1; obtain ⟨l3S, c3S0, _⟩ := S3.open1; obtain ⟨l4S, c4S0, _⟩ := S4.open1; clear S0 S1 S2 S3 S4; go_simp; (try with_reducible rfl))
          try simp only [Act.put, List.setIfInBounds_toArray, List.set_cons_zero, List.set_cons_succ]
          refine takeL (i := 33) (oi := ?_) (v := ?_) ?_ (by kernel_rfl) (by kernel_rfl) (by kernel_rfl) (by kernel_rfl) ?_ (Or.inl ⟨?_, ?_⟩) (by assumption) ?_
          rotate_left 2
          · (simp only [List.getElem?_toArray, List.getElem?_cons_succ, List.getElem?_cons_zero]; rfl)
          · exact fun _ _ _ h => h
          · rfl
          · (intro w hSw; (try dsimp only at hSw); obtain ⟨S0, S1, S2, S3, S4⟩ := hSw; obtain ⟨l0S, c0S0, _⟩ := S0.open1; obtain ⟨l1S, c1S0, _⟩ := S1.open1; obtain ⟨l2S, c2S0, _⟩ := S2.open1; obtain ⟨l3S, c3S0, _⟩ := S3.open1; obtain ⟨l4S, c4S0, _⟩ := S4.open1; clear S0 S1 S2 S3 S4; go_simp; (try with_reducible rfl))
          try simp only [Act.put, List.setIfInBounds_toArray, List.set_cons_zero, List.set_cons_succ]
          refine doneL (by kernel_rfl) ?_ _
          go_wp2_with fail
          go_ret
          exact ⟨rfl, bbw52.out⟩
end Go.Proofs.Ytlnailpefdlnnaa
