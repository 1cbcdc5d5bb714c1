/- The law FnDifferences: it returns true. -/
import Derived.Test.YtmjjepgnciibcaaDiffLaw
import Derived.Test.YtmjjepgnciibcaaDrI
import Derived.Test.YtmjjepgnciibcaaCrop
import Derived.Test.YtmjjepgnciibcaaSame
import Derived.Test.YtmjjepgnciibcaaAt2
import Derived.Test.YtmjjepgnciibcaaCopyR1
import Derived.Test.YtmjjepgnciibcaaDiff1
import Derived.Test.YtmjjepgnciibcaaRegK
import Derived.BigQuiet
import Derived.Deep.Cut
import Derived.Deep.DeepCutAuto
import Derived.Test.YtmjjepgnciibcaaOrd
namespace Go.Proofs.Ytmjjepgnciibcaa
open Go.RowKit
set_option linter.unusedVariables false
set_option linter.unusedSimpArgs false
/-- The laws' regions, compared with their like. -/
theorem eqRegion_same (A1 A2 : Option Addr) (n m c1 c2 : Nat) (zs : List Pl.R) (w : World) (H1 : RArg w A1 zs) (H2 : RArg w A2 zs) (L1 : zs.length = n) (L2 : zs.length = m) (b1 : n ≤ 9223372036854775807) (b2 : m ≤ 9223372036854775807) :
    Calls Try.prog 10 #[.agg #[.slice A1 n c1], .agg #[.slice A2 m c2]] w fun e w' => e = .returned (.bool true) ∧ Below w.heap.size w w' := by
  have h := eqRegion_any A1 A2 n m c1 c2 zs zs w H1 H2 L1 L2 b1 b2
  simpa using h
/-- A new variable that holds a region. -/
def NewVarR (J wx : World) (b : Nat) (rs : List Pl.R) : Prop :=
  ∃ (A : Option Addr) (c lo hi : Nat), J.heap.size ≤ b ∧ J.heap.size ≤ lo ∧ hi ≤ wx.heap.size ∧ (b < lo ∨ hi ≤ b) ∧ VB wx b [.slice A rs.length c] ∧ Recs wx lo hi (.slice A rs.length c) rs ∧ Below J.heap.size J wx
theorem size_setCell_eq (w : World) (a : Addr) (v : Value) : (w.setCell a v).heap.size = w.heap.size := by simp [World.setCell]
theorem szd_small {n : Nat} {l : Int} (h : n ≤ l) : Pl.szd l n = l - n := by unfold Pl.szd; rw [if_neg (by omega)]
theorem szd_big {n : Nat} {l : Int} (h : l < n) : Pl.szd l n = -1 := by unfold Pl.szd; rw [if_pos h]
theorem isRow_below {w w' : World} {a : Option Addr} {len cap : Nat} {zs : List Int} (h : IsRow .u8 w a len cap zs) (hb : Below w.heap.size w w') : IsRow .u8 w' a len cap zs := isRow_keep h fun x hx hc => hb.block _ (isRow_lt h x hx hc)
theorem isRow_len2 {w : World} {a : Option Addr} {len cap : Nat} {zs : List Int} (hr : IsRow .u8 w a len cap zs) : len ≤ 9223372036854775807 := by
  rcases hr with ⟨_, rfl, _⟩ | ⟨x, _, h1, h2, _⟩
  · omega
  · unfold maxLen at h2; omega
/-- A new variable that holds an image. -/
def NewVarI (J wx : World) (b : Nat) (W H : Int) (zs : List Int) : Prop :=
  ∃ (A : Option Addr) (c lo hi : Nat), J.heap.size ≤ b ∧ J.heap.size ≤ lo ∧ hi ≤ wx.heap.size ∧ (b < lo ∨ hi ≤ b) ∧ VB wx b [.int .i64 W, .int .i64 H, .slice A zs.length c] ∧ Ints wx lo hi (.slice A zs.length c) zs ∧ Below J.heap.size J wx
def NewImgV (W H : Int) (d : List Int) (w : World) (e : Ending) (w' : World) : Prop := ∃ A c, e = .returned (.agg #[.int .i64 W, .int .i64 H, .slice A d.length c]) ∧ Ints w' w.heap.size w'.heap.size (.slice A d.length c) d ∧ Below w.heap.size w w'
theorem specFillV (W H W2 H2 : Int) (A : Option Addr) (n c lo hi : Nat) (zs d : List Int) (x y a b p : Int) (w : World) (hf : Pl.fill ⟨W, H, zs⟩ ⟨x, y, a, b⟩ p = ⟨W2, H2, d⟩) (HI : Ints w lo hi (.slice A n c) zs) (hb : n ≤ 1048576) :
    Calls Try.prog 22 #[.agg #[.int .i64 W, .int .i64 H, .slice A n c], .agg #[.int .i64 x, .int .i64 y, .int .i64 a, .int .i64 b], .int .i64 p] w (NewImgV W2 H2 d w) := by
  have h := specFill W H A n c lo hi zs x y a b p w HI hb
  rw [hf] at h
  exact h
theorem implCopyV (W H W2 H2 W3 H3 : Int) (A B C : Option Addr) (n m p c d q l1 h1 l2 h2 : Nat) (za zb ds : List Int) (zr : List Pl.R) (w : World) (hf : Pl.copyRegion ⟨W, H, za⟩ ⟨W2, H2, zb⟩ zr = ⟨W3, H3, ds⟩) (IA : Ints w l1 h1 (.slice A n c) za) (IB : Ints w l2 h2 (.slice B m d) zb) (IC : RArg w C zr) (hp : zr.length = p) (hn : n ≤ 1048576) (hpb : p ≤ 9223372036854775807) :
    Calls Try.prog 18 #[.agg #[.int .i64 W, .int .i64 H, .slice A n c], .agg #[.int .i64 W2, .int .i64 H2, .slice B m d], .agg #[.slice C p q]] w (NewImgV W3 H3 ds w) := by
  have h := implCopyRegion W H W2 H2 A B C n m p c d q l1 h1 l2 h2 za zb zr w IA IB IC hp hn hpb
  rw [hf] at h
  exact h
theorem implCropV (W H W2 H2 : Int) (A : Option Addr) (n c lo hi : Nat) (zs d : List Int) (x y a b : Int) (w : World) (hf : Pl.cropOk ⟨W, H, zs⟩ ⟨x, y, a, b⟩ = true ∧ Pl.crop ⟨W, H, zs⟩ ⟨x, y, a, b⟩ = ⟨W2, H2, d⟩) (HI : Ints w lo hi (.slice A n c) zs) :
    Calls Try.prog 24 #[.agg #[.int .i64 W, .int .i64 H, .slice A n c], .agg #[.int .i64 x, .int .i64 y, .int .i64 a, .int .i64 b]] w fun e w' => ∃ A' c', e = .returned (.tuple #[.agg #[.int .i64 W2, .int .i64 H2, .slice A' d.length c'], .bool true]) ∧ Ints w' w.heap.size w'.heap.size (.slice A' d.length c') d ∧ Below w.heap.size w w' := by
  have h := implCrop W H A n c lo hi zs x y a b w HI
  rw [hf.1, hf.2] at h
  exact h
theorem implDiffV (W H W2 H2 : Int) (A B : Option Addr) (n m c d l1 h1 l2 h2 : Nat) (za zb : List Int) (zr : List Pl.R) (w : World) (hf : Pl.diffOf ⟨W, H, za⟩ ⟨W2, H2, zb⟩ = zr) (IA : Ints w l1 h1 (.slice A n c) za) (IB : Ints w l2 h2 (.slice B m d) zb) :
    Calls Try.prog 9 #[.agg #[.int .i64 W, .int .i64 H, .slice A n c], .agg #[.int .i64 W2, .int .i64 H2, .slice B m d]] w (NewReg zr w) := by
  have h := implDifference W H W2 H2 A B n m c d l1 h1 l2 h2 za zb w IA IB
  rw [hf] at h
  exact h
theorem implSameV (W H : Int) (A1 A2 : Option Addr) (n m c1 c2 l1 h1 l2 h2 : Nat) (zs : List Int) (w : World) (I1 : Ints w l1 h1 (.slice A1 n c1) zs) (I2 : Ints w l2 h2 (.slice A2 m c2) zs) :
    Calls Try.prog 25 #[.agg #[.int .i64 W, .int .i64 H, .slice A1 n c1], .agg #[.int .i64 W, .int .i64 H, .slice A2 m c2]] w fun e w' => e = .returned (.bool true) ∧ Below w.heap.size w w' := by
  have h := implSameImage W H W H A1 A2 n m c1 c2 l1 h1 l2 h2 zs zs w I1 I2
  simpa using h
theorem sameImageV (W H : Int) (A1 A2 : Option Addr) (n m c1 c2 l1 h1 l2 h2 : Nat) (zs ys : List Int) (b : Bool) (w : World) (hd : decide (zs = ys) = b) (I1 : Ints w l1 h1 (.slice A1 n c1) zs) (I2 : Ints w l2 h2 (.slice A2 m c2) ys) :
    Calls Try.prog 26 #[.agg #[.int .i64 W, .int .i64 H, .slice A1 n c1], .agg #[.int .i64 W, .int .i64 H, .slice A2 m c2]] w fun e w' => e = .returned (.bool b) ∧ Below w.heap.size w w' := by
  have h := sameImage_any W H W H A1 A2 n m c1 c2 l1 h1 l2 h2 zs ys w I1 I2
  subst hd
  simpa using h
theorem areaV (A : Option Addr) (n c : Nat) (zs : List Pl.R) (r : Int) (w : World) (hr : Pl.areaOf zs = r) (HA : RArg w A zs) (hn : zs.length = n) (hb : n ≤ 9223372036854775807) : Calls Try.prog 27 #[.agg #[.slice A n c]] w fun e w' => e = .returned (.int .i64 r) ∧ Below w.heap.size w w' := by
  have h := implAreaOf A n c zs w HA hn hb
  rw [hr] at h
  exact h
theorem atB (a : Option Addr) (len cap : Nat) (zs : List Int) (k v : Int) (w : World) (hv : Pl.atV len zs k = v) (hr : IsRow .u8 w a len cap zs) (hk : 0 ≤ k) (hk2 : k ≤ 1000) : Calls Try.prog 23 #[.slice a len cap, .int .i64 k] w fun e w' => e = .returned (.int .i64 v) ∧ Below w.heap.size w w' := by
  refine (at_val a len cap zs k w hr hk hk2).mono ?_
  rintro e w' ⟨rfl, rfl⟩
  exact ⟨by rw [hv], Below.refl _ _⟩
set_option maxRecDepth 100000 in
set_option maxHeartbeats 8000000 in
theorem walkFnDifferences (a : Option Addr) (len cap : Nat) (z : List Int) (w : World) (hr : IsRow .u8 w a len cap z) : Calls Try.prog 5 #[.slice a len cap] w fun e w' => e = .returned (.bool true) ∧ Below w.heap.size w w' := by
  have hl := isRow_len2 hr
  by_cases hbig : 1048576 < len
  · go_enter Try.func5, Try.ntmps5
    go_wp2_with fail
    refine (big_any _ _ _ _ hl).mono ?_
    rintro e w' ⟨rfl, rfl⟩
    go_wp2_with fail
    go_ret
    exact ⟨rfl, Below.refl _ _⟩
  have HR := Lib.hid hr
  clear hr
  have bbw : Hid (Below w.heap.size w w) := Lib.hid (Below.refl _ _)
  go_enter Try.func5, Try.ntmps5
  go_wp2_with fail
  refine (big_any _ _ _ _ hl).mono ?_
  rintro e w' ⟨rfl, rfl⟩
  go_wp2_with fail
  refine (drawImage a len cap z _ HR.out (by omega)).mono ?_
  rintro e w1 ⟨X, Y, ci, Ai, zs, rfl, ok, X8, Y8, Ow1, hbw1⟩
  have Iiw1 : Hid _ := Lib.hid Ow1
  clear Ow1
  have OK := Lib.hid ok
  obtain ⟨X1, X2, Y1, Y2, hzl⟩ := Pl.dims ok
  have HZL := Lib.hid hzl
  clear ok hzl X2 Y2
  have bbw1 := Lib.hid (later bbw.out hbw1)
  obtain ⟨v0, e0⟩ : ∃ v, Pl.atV len z 0 = v := ⟨_, rfl⟩
  have hv0 := atV_bd HR.out 0
  rw [e0] at hv0
  obtain ⟨p0, q0⟩ := hv0
  have E0 := Lib.hid e0
  clear e0
  obtain ⟨v1, e1⟩ : ∃ v, Pl.atV len z 1 = v := ⟨_, rfl⟩
  have hv1 := atV_bd HR.out 1
  rw [e1] at hv1
  obtain ⟨p1, q1⟩ := hv1
  have E1 := Lib.hid e1
  clear e1
  obtain ⟨v2, e2⟩ : ∃ v, Pl.atV len z 2 = v := ⟨_, rfl⟩
  have hv2 := atV_bd HR.out 2
  rw [e2] at hv2
  obtain ⟨p2, q2⟩ := hv2
  have E2 := Lib.hid e2
  clear e2
  obtain ⟨v3, e3⟩ : ∃ v, Pl.atV len z 3 = v := ⟨_, rfl⟩
  have hv3 := atV_bd HR.out 3
  rw [e3] at hv3
  obtain ⟨p3, q3⟩ := hv3
  have E3 := Lib.hid e3
  clear e3
  obtain ⟨v4, e4⟩ : ∃ v, Pl.atV len z 4 = v := ⟨_, rfl⟩
  have hv4 := atV_bd HR.out 4
  rw [e4] at hv4
  obtain ⟨p4, q4⟩ := hv4
  have E4 := Lib.hid e4
  clear e4
  obtain ⟨ds, hF, okj⟩ : ∃ ds, Pl.fill ⟨X, Y, zs⟩ ⟨v0 % 6, v1 % 6, v2 % 5, v3 % 5⟩ (v4 * 65536) = ⟨X, Y, ds⟩ ∧ Pl.imageOk ⟨X, Y, ds⟩ = true := by
    obtain ⟨f1, f2, f3⟩ := Pl.fill_ok (i := ⟨X, Y, zs⟩) ⟨v0 % 6, v1 % 6, v2 % 5, v3 % 5⟩ (v4 * 65536) OK.out
    generalize Pl.fill ⟨X, Y, zs⟩ ⟨v0 % 6, v1 % 6, v2 % 5, v3 % 5⟩ (v4 * 65536) = F at *
    obtain ⟨W, H, d⟩ := F
    simp only at f2 f3
    subst f2 f3
    exact ⟨d, rfl, f1⟩
  have HF := Lib.hid hF
  have OKJ := Lib.hid okj
  have hdl := (Pl.dims okj).2.2.2.2
  have HDL := Lib.hid hdl
  clear hF okj hdl
  obtain ⟨dd, hD⟩ : ∃ dd, Pl.diffOf ⟨X, Y, zs⟩ ⟨X, Y, ds⟩ = dd := ⟨_, rfl⟩
  have HD := Lib.hid hD
  have hC := Pl.copy_diff OK.out OKJ.out
  rw [hD] at hC
  have HC := Lib.hid hC
  clear hC
  have HCR := Lib.hid (Pl.crop_whole OKJ.out)
  obtain ⟨ar, hA⟩ : ∃ ar, Pl.areaOf dd = ar := ⟨_, rfl⟩
  have HA := Lib.hid hA
  obtain ⟨ar1, ar0⟩ := Pl.area_le OK.out OKJ.out
  have ar2 := Pl.area_none OK.out OKJ.out
  rw [hD, hA] at ar0 ar1 ar2
  have hdd : dd.length ≤ 256 := by rw [← hD]; exact Pl.diffOf_length _ _
  clear hD hA
  obtain ⟨P, hP⟩ : ∃ P, X * Y = P := ⟨_, rfl⟩
  rw [hP] at ar1
  have hPb : P ≤ 64 := by rw [← hP]; exact Nat.mul_le_mul X8 Y8
  have hPi : (X : Int) * (Y : Int) = (P : Int) := by rw [← hP]; exact (Int.natCast_mul X Y).symm
  have hnz : zs.length ≤ 1048576 := by rw [HZL.out, hP]; omega
  have HAR := Lib.hid ar2
  have HPI := Lib.hid hPi
  clear hP ar2 hPi
  go_wp2_with fail
  have Iiw2 : Hid _ := Lib.hid ((Iiw1.out).alloc (.cells #[.int .i64 X, .int .i64 Y, .slice Ai zs.length ci] 30 (0, 0)))
  have Viw2 := Lib.hid (VB.new (w := w1) (b := w1.heap.size) (t := 30) (cs := [.int .i64 X,.int .i64 Y,.slice Ai zs.length ci]) (by simp))
  have hbw2 : Below w1.heap.size w1 (w1.alloc (.cells #[.int .i64 X, .int .i64 Y, .slice Ai zs.length ci] 30 (0, 0))) := by go_grown
  have bbw2 : Hid (Below w.heap.size w (w1.alloc (.cells #[.int .i64 X, .int .i64 Y, .slice Ai zs.length ci] 30 (0, 0)))) := Lib.hid (later bbw1.out hbw2)
  have hzw2 : w1.heap.size + 1 ≤ (w1.alloc (.cells #[.int .i64 X, .int .i64 Y, .slice Ai zs.length ci] 30 (0, 0))).heap.size := by simp
  generalize (w1.alloc (.cells #[.int .i64 X, .int .i64 Y, .slice Ai zs.length ci] 30 (0, 0))) = w2 at *
  obtain ⟨liw2, ciw2_0, ciw2_1, ciw2_2, fiw2_0, fiw2_1, fiw2_2⟩ := Viw2.out.open3
  have m0 : v0.tmod 6 = v0 % 6 := Int.tmod_eq_emod_of_nonneg (by omega)
  have n0 : IntKind.i64.wrap (v0 % 6) = v0 % 6 := IntWalk.i64_in _ ⟨by omega, by omega⟩
  have m1 : v1.tmod 6 = v1 % 6 := Int.tmod_eq_emod_of_nonneg (by omega)
  have n1 : IntKind.i64.wrap (v1 % 6) = v1 % 6 := IntWalk.i64_in _ ⟨by omega, by omega⟩
  have m2 : v2.tmod 5 = v2 % 5 := Int.tmod_eq_emod_of_nonneg (by omega)
  have n2 : IntKind.i64.wrap (v2 % 5) = v2 % 5 := IntWalk.i64_in _ ⟨by omega, by omega⟩
  have m3 : v3.tmod 5 = v3 % 5 := Int.tmod_eq_emod_of_nonneg (by omega)
  have n3 : IntKind.i64.wrap (v3 % 5) = v3 % 5 := IntWalk.i64_in _ ⟨by omega, by omega⟩
  have n4 : IntKind.i64.wrap (v4 * 65536) = v4 * 65536 := IntWalk.i64_in _ ⟨by omega, by omega⟩
  go_cut [4] (fun s4 wx => ∃ b : Nat, s4 = .pointer (some ⟨b, 0, none⟩) ∧ NewVarI w2 wx b X Y ds)
  case first =>
    clear liw2 ciw2_0 ciw2_1 ciw2_2 fiw2_0 fiw2_1 fiw2_2
    have bbw3 : Hid (Below w.heap.size w w2.drew) := Lib.hid (Below.drew bbw2.out)
    have bjw3 : Hid (Below w2.heap.size w2 w2.drew) := Lib.hid (Below.drew (Below.refl _ _))
    have hzw3 : w2.heap.size ≤ w2.drew.heap.size := Nat.le_refl _
    have Viw3 := Lib.hid (VB.drew Viw2.out)
    have Iiw3 : Hid _ := Lib.hid (show Ints w2.drew _ _ _ _ from Iiw2.out)
    refine regionL (S := (fun w' => VB w' (w1.heap.size) [.int .i64 X, .int .i64 Y, .slice Ai zs.length ci])) (L := 19) (by kernel_rfl) ?_ (fun hHeld => ?_)
    · (first | exact VB.step hHeld B9 | exact VB.drew Viw2.out)
    refine takeL (i := 0) (oi := ?_) (v := ?_) ?_ (by kernel_rfl) (by kernel_rfl) (by kernel_rfl) (by kernel_rfl) ?_ (Or.inl ⟨?_, ?_⟩) (by assumption) ?_
    rotate_left 2
    · (simp only [List.getElem?_toArray, List.getElem?_cons_succ, List.getElem?_cons_zero]; rfl)
    · exact fun _ _ _ h => h
    · rfl
    · (intro w hSw; (try dsimp only at hSw); have S0 := hSw; obtain ⟨l0S, c0S0, c0S1, c0S2, _⟩ := S0.open3; clear S0; go_simp; (try with_reducible rfl))
    try simp only [Act.put, List.setIfInBounds_toArray, List.set_cons_zero, List.set_cons_succ]
    refine takeL (i := 1) (oi := ?_) (v := ?_) ?_ (by kernel_rfl) (by kernel_rfl) (by kernel_rfl) (by kernel_rfl) ?_ (Or.inl ⟨?_, ?_⟩) (by assumption) ?_
    rotate_left 2
    · (simp only [List.getElem?_toArray, List.getElem?_cons_succ, List.getElem?_cons_zero]; rfl)
    · exact fun _ _ _ h => h
    · rfl
    · (intro w hSw; (try dsimp only at hSw); have S0 := hSw; obtain ⟨l0S, c0S0, c0S1, c0S2, _⟩ := S0.open3; clear S0; go_simp; (try with_reducible rfl))
    try simp only [Act.put, List.setIfInBounds_toArray, List.set_cons_zero, List.set_cons_succ]
    refine takeL (i := 4) (oi := ?_) (v := ?_) ?_ (by kernel_rfl) (by kernel_rfl) (by kernel_rfl) (by kernel_rfl) ?_ (Or.inl ⟨?_, ?_⟩) (by assumption) ?_
    rotate_left 2
    · (simp only [List.getElem?_toArray, List.getElem?_cons_succ, List.getElem?_cons_zero]; rfl)
    · exact fun _ _ _ h => h
    · rfl
    · (intro w hSw; (try dsimp only at hSw); have S0 := hSw; obtain ⟨l0S, c0S0, c0S1, c0S2, _⟩ := S0.open3; clear S0; go_simp; (try with_reducible rfl))
    try simp only [Act.put, List.setIfInBounds_toArray, List.set_cons_zero, List.set_cons_succ]
    refine takeL (i := 7) (oi := ?_) (v := ?_) ?_ (by kernel_rfl) (by kernel_rfl) (by kernel_rfl) (by kernel_rfl) ?_ (Or.inl ⟨?_, ?_⟩) (by assumption) ?_
    rotate_left 2
    · (simp only [List.getElem?_toArray, List.getElem?_cons_succ, List.getElem?_cons_zero]; rfl)
    · exact fun _ _ _ h => h
    · rfl
    · (intro w hSw; (try dsimp only at hSw); have S0 := hSw; obtain ⟨l0S, c0S0, c0S1, c0S2, _⟩ := S0.open3; clear S0; go_simp; (try with_reducible rfl))
    try simp only [Act.put, List.setIfInBounds_toArray, List.set_cons_zero, List.set_cons_succ]
    refine takeL (i := 10) (oi := ?_) (v := ?_) ?_ (by kernel_rfl) (by kernel_rfl) (by kernel_rfl) (by kernel_rfl) ?_ (Or.inl ⟨?_, ?_⟩) (by assumption) ?_
    rotate_left 2
    · (simp only [List.getElem?_toArray, List.getElem?_cons_succ, List.getElem?_cons_zero]; rfl)
    · exact fun _ _ _ h => h
    · rfl
    · (intro w hSw; (try dsimp only at hSw); have S0 := hSw; obtain ⟨l0S, c0S0, c0S1, c0S2, _⟩ := S0.open3; clear S0; go_simp; (try with_reducible rfl))
    try simp only [Act.put, List.setIfInBounds_toArray, List.set_cons_zero, List.set_cons_succ]
    refine takeL (i := 14) (oi := ?_) (v := ?_) ?_ (by kernel_rfl) (by kernel_rfl) (by kernel_rfl) (by kernel_rfl) ?_ (Or.inl ⟨?_, ?_⟩) (by assumption) ?_
    rotate_left 2
    · (simp only [List.getElem?_toArray, List.getElem?_cons_succ, List.getElem?_cons_zero]; rfl)
    · exact fun _ _ _ h => h
    · rfl
    · (intro w hSw; (try dsimp only at hSw); have S0 := hSw; obtain ⟨l0S, c0S0, c0S1, c0S2, _⟩ := S0.open3; clear S0; go_simp; (try with_reducible rfl))
    try simp only [Act.put, List.setIfInBounds_toArray, List.set_cons_zero, List.set_cons_succ]
    refine readyL (rs := [2, 18]) (by kernel_rfl) (by simp) ?_
    refine AllReadyL.cons (o := ?_) ?_ (fun K hK => ?_) ?_
    rotate_left
    · (simp only [List.getElem?_toArray, List.getElem?_cons_succ, List.getElem?_cons_zero]; rfl)
    · go_simp
      go_at_call 23
      ((with_reducible refine (atB _ _ _ z 0 v0 _ E0.out (isRow_below HR.out bbw3.out) (by omega) (by omega)).mono ?_))
      rintro e w4 ⟨rfl, hbw4⟩
      have bbw4 := Lib.hid (later bbw3.out hbw4)
      have hzw4 := hbw4.size
      have Viw4 := Lib.hid (Viw3.out.step hbw4)
      have Iiw4 : Hid _ := Lib.hid (Iiw3.out.step hbw4)
      clear Viw3
      clear Iiw3
      obtain ⟨liw4, ciw4_0, ciw4_1, ciw4_2, fiw4_0, fiw4_1, fiw4_2⟩ := Viw4.out.open3
      have bjw4 := Lib.hid (later bjw3.out hbw4)
      have B9 := hbw4
      refine hK.out _ _ ?_ (fun hHeld => ?_)
      · (first | exact VB.step hHeld B9 | exact VB.drew Viw2.out)
      clear hK K
      try simp only [Act.put, List.setIfInBounds_toArray, List.set_cons_zero, List.set_cons_succ]
      refine takeL (i := 3) (oi := ?_) (v := ?_) ?_ (by kernel_rfl) (by kernel_rfl) (by kernel_rfl) (by kernel_rfl) ?_ (Or.inl ⟨?_, ?_⟩) (by assumption) ?_
      rotate_left 2
      · (simp only [List.getElem?_toArray, List.getElem?_cons_succ, List.getElem?_cons_zero]; rfl)
      · exact fun _ _ _ h => h
      · rfl
      · (intro w hSw; (try dsimp only at hSw); have S0 := hSw; obtain ⟨l0S, c0S0, c0S1, c0S2, _⟩ := S0.open3; clear S0; go_simp; (try with_reducible rfl))
      try simp only [Act.put, List.setIfInBounds_toArray, List.set_cons_zero, List.set_cons_succ]
      refine readyL (rs := [5, 18]) (by kernel_rfl) (by simp) ?_
      refine AllReadyL.cons (o := ?_) ?_ (fun K hK => ?_) ?_
      rotate_left
      · (simp only [List.getElem?_toArray, List.getElem?_cons_succ, List.getElem?_cons_zero]; rfl)
      · go_simp
        go_at_call 23
        ((with_reducible refine (atB _ _ _ z 1 v1 _ E1.out (isRow_below HR.out bbw4.out) (by omega) (by omega)).mono ?_))
        rintro e w5 ⟨rfl, hbw5⟩
        clear liw4 ciw4_0 ciw4_1 ciw4_2 fiw4_0 fiw4_1 fiw4_2
        have bbw5 := Lib.hid (later bbw4.out hbw5)
        have hzw5 := hbw5.size
        have Viw5 := Lib.hid (Viw4.out.step hbw5)
        have Iiw5 : Hid _ := Lib.hid (Iiw4.out.step hbw5)
        clear Viw4
        clear Iiw4
        obtain ⟨liw5, ciw5_0, ciw5_1, ciw5_2, fiw5_0, fiw5_1, fiw5_2⟩ := Viw5.out.open3
        have bjw5 := Lib.hid (later bjw4.out hbw5)
        have B9 := hbw5
        refine hK.out _ _ ?_ (fun hHeld => ?_)
        · (first | exact VB.step hHeld B9 | exact VB.drew Viw2.out)
        clear hK K
        try simp only [Act.put, List.setIfInBounds_toArray, List.set_cons_zero, List.set_cons_succ]
        refine takeL (i := 6) (oi := ?_) (v := ?_) ?_ (by kernel_rfl) (by kernel_rfl) (by kernel_rfl) (by kernel_rfl) ?_ (Or.inl ⟨?_, ?_⟩) (by assumption) ?_
        rotate_left 2
        · (simp only [List.getElem?_toArray, List.getElem?_cons_succ, List.getElem?_cons_zero]; rfl)
        · exact fun _ _ _ h => h
        · rfl
        · (intro w hSw; (try dsimp only at hSw); have S0 := hSw; obtain ⟨l0S, c0S0, c0S1, c0S2, _⟩ := S0.open3; clear S0; go_simp; (try with_reducible rfl))
        try simp only [Act.put, List.setIfInBounds_toArray, List.set_cons_zero, List.set_cons_succ]
        refine readyL (rs := [8, 18]) (by kernel_rfl) (by simp) ?_
        refine AllReadyL.cons (o := ?_) ?_ (fun K hK => ?_) ?_
        rotate_left
        · (simp only [List.getElem?_toArray, List.getElem?_cons_succ, List.getElem?_cons_zero]; rfl)
        · go_simp
          go_at_call 23
          ((with_reducible refine (atB _ _ _ z 2 v2 _ E2.out (isRow_below HR.out bbw5.out) (by omega) (by omega)).mono ?_))
          rintro e w6 ⟨rfl, hbw6⟩
          clear liw5 ciw5_0 ciw5_1 ciw5_2 fiw5_0 fiw5_1 fiw5_2
          have bbw6 := Lib.hid (later bbw5.out hbw6)
          have hzw6 := hbw6.size
          have Viw6 := Lib.hid (Viw5.out.step hbw6)
          have Iiw6 : Hid _ := Lib.hid (Iiw5.out.step hbw6)
          clear Viw5
          clear Iiw5
          obtain ⟨liw6, ciw6_0, ciw6_1, ciw6_2, fiw6_0, fiw6_1, fiw6_2⟩ := Viw6.out.open3
          have bjw6 := Lib.hid (later bjw5.out hbw6)
          have B9 := hbw6
          refine hK.out _ _ ?_ (fun hHeld => ?_)
          · (first | exact VB.step hHeld B9 | exact VB.drew Viw2.out)
          clear hK K
          try simp only [Act.put, List.setIfInBounds_toArray, List.set_cons_zero, List.set_cons_succ]
          refine takeL (i := 9) (oi := ?_) (v := ?_) ?_ (by kernel_rfl) (by kernel_rfl) (by kernel_rfl) (by kernel_rfl) ?_ (Or.inl ⟨?_, ?_⟩) (by assumption) ?_
          rotate_left 2
          · (simp only [List.getElem?_toArray, List.getElem?_cons_succ, List.getElem?_cons_zero]; rfl)
          · exact fun _ _ _ h => h
          · rfl
          · (intro w hSw; (try dsimp only at hSw); have S0 := hSw; obtain ⟨l0S, c0S0, c0S1, c0S2, _⟩ := S0.open3; clear S0; go_simp; (try with_reducible rfl))
          try simp only [Act.put, List.setIfInBounds_toArray, List.set_cons_zero, List.set_cons_succ]
          refine readyL (rs := [11, 18]) (by kernel_rfl) (by simp) ?_
          refine AllReadyL.cons (o := ?_) ?_ (fun K hK => ?_) ?_
          rotate_left
          · (simp only [List.getElem?_toArray, List.getElem?_cons_succ, List.getElem?_cons_zero]; rfl)
          · go_simp
            go_at_call 23
            ((with_reducible refine (atB _ _ _ z 3 v3 _ E3.out (isRow_below HR.out bbw6.out) (by omega) (by omega)).mono ?_))
            rintro e w7 ⟨rfl, hbw7⟩
            clear liw6 ciw6_0 ciw6_1 ciw6_2 fiw6_0 fiw6_1 fiw6_2
            have bbw7 := Lib.hid (later bbw6.out hbw7)
            have hzw7 := hbw7.size
            have Viw7 := Lib.hid (Viw6.out.step hbw7)
            have Iiw7 : Hid _ := Lib.hid (Iiw6.out.step hbw7)
            clear Viw6
            clear Iiw6
            obtain ⟨liw7, ciw7_0, ciw7_1, ciw7_2, fiw7_0, fiw7_1, fiw7_2⟩ := Viw7.out.open3
            have bjw7 := Lib.hid (later bjw6.out hbw7)
            have B9 := hbw7
            refine hK.out _ _ ?_ (fun hHeld => ?_)
            · (first | exact VB.step hHeld B9 | exact VB.drew Viw2.out)
            clear hK K
            try simp only [Act.put, List.setIfInBounds_toArray, List.set_cons_zero, List.set_cons_succ]
            refine takeL (i := 12) (oi := ?_) (v := ?_) ?_ (by kernel_rfl) (by kernel_rfl) (by kernel_rfl) (by kernel_rfl) ?_ (Or.inl ⟨?_, ?_⟩) (by assumption) ?_
            rotate_left 2
            · (simp only [List.getElem?_toArray, List.getElem?_cons_succ, List.getElem?_cons_zero]; rfl)
            · exact fun _ _ _ h => h
            · rfl
            · (intro w hSw; (try dsimp only at hSw); have S0 := hSw; obtain ⟨l0S, c0S0, c0S1, c0S2, _⟩ := S0.open3; clear S0; go_simp; (try with_reducible rfl))
            try simp only [Act.put, List.setIfInBounds_toArray, List.set_cons_zero, List.set_cons_succ]
            refine takeL (i := 13) (oi := ?_) (v := ?_) ?_ (by kernel_rfl) (by kernel_rfl) (by kernel_rfl) (by kernel_rfl) ?_ (Or.inl ⟨?_, ?_⟩) (by assumption) ?_
            rotate_left 2
            · (simp only [List.getElem?_toArray, List.getElem?_cons_succ, List.getElem?_cons_zero]; rfl)
            · exact fun _ _ _ h => h
            · rfl
            · (intro w hSw; (try dsimp only at hSw); have S0 := hSw; obtain ⟨l0S, c0S0, c0S1, c0S2, _⟩ := S0.open3; clear S0; go_simp; (try with_reducible rfl))
            try simp only [Act.put, List.setIfInBounds_toArray, List.set_cons_zero, List.set_cons_succ]
            refine readyL (rs := [15, 18]) (by kernel_rfl) (by simp) ?_
            refine AllReadyL.cons (o := ?_) ?_ (fun K hK => ?_) ?_
            rotate_left
            · (simp only [List.getElem?_toArray, List.getElem?_cons_succ, List.getElem?_cons_zero]; rfl)
            · go_simp
              go_at_call 23
              ((with_reducible refine (atB _ _ _ z 4 v4 _ E4.out (isRow_below HR.out bbw7.out) (by omega) (by omega)).mono ?_))
              rintro e w8 ⟨rfl, hbw8⟩
              clear liw7 ciw7_0 ciw7_1 ciw7_2 fiw7_0 fiw7_1 fiw7_2
              have bbw8 := Lib.hid (later bbw7.out hbw8)
              have hzw8 := hbw8.size
              have Viw8 := Lib.hid (Viw7.out.step hbw8)
              have Iiw8 : Hid _ := Lib.hid (Iiw7.out.step hbw8)
              clear Viw7
              clear Iiw7
              obtain ⟨liw8, ciw8_0, ciw8_1, ciw8_2, fiw8_0, fiw8_1, fiw8_2⟩ := Viw8.out.open3
              have bjw8 := Lib.hid (later bjw7.out hbw8)
              have B9 := hbw8
              refine hK.out _ _ ?_ (fun hHeld => ?_)
              · (first | exact VB.step hHeld B9 | exact VB.drew Viw2.out)
              clear hK K
              try simp only [Act.put, List.setIfInBounds_toArray, List.set_cons_zero, List.set_cons_succ]
              refine takeL (i := 16) (oi := ?_) (v := ?_) ?_ (by kernel_rfl) (by kernel_rfl) (by kernel_rfl) (by kernel_rfl) ?_ (Or.inl ⟨?_, ?_⟩) (by assumption) ?_
              rotate_left 2
              · (simp only [List.getElem?_toArray, List.getElem?_cons_succ, List.getElem?_cons_zero]; rfl)
              · exact fun _ _ _ h => h
              · rfl
              · (intro w hSw; (try dsimp only at hSw); have S0 := hSw; obtain ⟨l0S, c0S0, c0S1, c0S2, _⟩ := S0.open3; clear S0; go_simp; (try with_reducible rfl))
              try simp only [Act.put, List.setIfInBounds_toArray, List.set_cons_zero, List.set_cons_succ]
              refine readyL (rs := [17, 18]) (by kernel_rfl) (by simp) ?_
              refine AllReadyL.cons (o := ?_) ?_ (fun K hK => ?_) ?_
              rotate_left
              · (simp only [List.getElem?_toArray, List.getElem?_cons_succ, List.getElem?_cons_zero]; rfl)
              · go_simp
                go_at_call 22
                ((with_reducible refine (specFillV _ _ _ _ _ _ _ _ _ zs ds _ _ _ _ _ _ HF.out Iiw8.out hnz).mono ?_))
                rintro e w9 ⟨Aw9, kw9, rfl, Ow9, hbw9⟩
                have Pw9 := Lib.hid Ow9
                clear Ow9
                clear liw8 ciw8_0 ciw8_1 ciw8_2 fiw8_0 fiw8_1 fiw8_2
                have bbw9 := Lib.hid (later bbw8.out hbw9)
                have hzw9 := hbw9.size
                have Viw9 := Lib.hid (Viw8.out.step hbw9)
                have Iiw9 : Hid _ := Lib.hid (Iiw8.out.step hbw9)
                clear Viw8
                clear Iiw8
                obtain ⟨liw9, ciw9_0, ciw9_1, ciw9_2, fiw9_0, fiw9_1, fiw9_2⟩ := Viw9.out.open3
                have Ij'w9 := Pw9
                clear Pw9
                have bjw9 := Lib.hid (later bjw8.out hbw9)
                have B9 := hbw9
                refine hK.out _ _ ?_ (fun hHeld => ?_)
                · (first | exact VB.step hHeld B9 | exact VB.drew Viw2.out)
                clear hK K
                try simp only [Act.put, List.setIfInBounds_toArray, List.set_cons_zero, List.set_cons_succ]
                refine readyL (rs := [18]) (by kernel_rfl) (by simp) ?_
                refine AllReadyL.cons (o := ?_) ?_ (fun K hK => ?_) AllReadyL.none_
                rotate_left
                · (simp only [List.getElem?_toArray, List.getElem?_cons_succ, List.getElem?_cons_zero]; rfl)
                go_simp
                have hbw10 : Below (w9).heap.size (w9) (w9.alloc (.cells #[.int .i64 0, .int .i64 0, .slice none 0 0] 30 (0, 0))) := by first | exact (Below.refl _ _).alloc (Nat.le_refl _) _ | exact (show Below (w2.drew).heap.size w2.drew (w2.drew.alloc (.cells #[.int .i64 0, .int .i64 0, .slice none 0 0] 30 (0, 0))) from (Below.refl _ _).alloc (Nat.le_refl _) _)
                have haw10 : w2.heap.size ≤ w9.heap.size := bjw9.out.size
                have hyw10 : (w9).heap.size < (w9.alloc (.cells #[.int .i64 0, .int .i64 0, .slice none 0 0] 30 (0, 0))).heap.size := by simp
                have Zw10 : Hid (VB (w9.alloc (.cells #[.int .i64 0, .int .i64 0, .slice none 0 0] 30 (0, 0))) (w9.heap.size) [.int .i64 0, .int .i64 0, .slice none 0 0]) := Lib.hid (by first | exact VB.new (cs := [.int .i64 0, .int .i64 0, .slice none 0 0]) rfl | exact VB.drew (VB.new (cs := [.int .i64 0, .int .i64 0, .slice none 0 0]) rfl))
                generalize (w9.alloc (.cells #[.int .i64 0, .int .i64 0, .slice none 0 0] 30 (0, 0))) = w10 at *
                clear liw9 ciw9_0 ciw9_1 ciw9_2 fiw9_0 fiw9_1 fiw9_2
                have bbw10 := Lib.hid (later bbw9.out hbw10)
                have hzw10 := hbw10.size
                have Viw10 := Lib.hid (Viw9.out.step hbw10)
                have Iiw10 : Hid _ := Lib.hid (Iiw9.out.step hbw10)
                have Ij'w10 : Hid _ := Lib.hid (Ij'w9.out.step hbw10)
                clear Viw9
                clear Iiw9
                clear Ij'w9
                obtain ⟨liw10, ciw10_0, ciw10_1, ciw10_2, fiw10_0, fiw10_1, fiw10_2⟩ := Viw10.out.open3
                have bjw10 := Lib.hid (later bjw9.out hbw10)
                clear liw10 ciw10_0 ciw10_1 ciw10_2 fiw10_0 fiw10_1 fiw10_2
                have Vjw10 := Zw10
                obtain ⟨liw10, ciw10_0, ciw10_1, ciw10_2, fiw10_0, fiw10_1, fiw10_2⟩ := Viw10.out.open3
                obtain ⟨ljw10, cjw10_0, cjw10_1, cjw10_2, fjw10_0, fjw10_1, fjw10_2⟩ := Vjw10.out.open3
                have B9 := hbw10
                refine hK.out _ _ ?_ (fun hHeld => ?_)
                · (first | exact VB.step hHeld B9 | exact VB.drew Viw2.out)
                clear hK K
                try simp only [Act.put, List.setIfInBounds_toArray, List.set_cons_zero, List.set_cons_succ]
                refine readyL (rs := [19]) (by kernel_rfl) (by simp) ?_
                refine AllReadyL.last (o := ?_) ?_ (fun K hK => ?_)
                rotate_left
                · (simp only [List.getElem?_toArray, List.getElem?_cons_succ, List.getElem?_cons_zero]; rfl)
                go_simp
                refine hK.out _ _ ?_
                clear hK K
                try simp only [Act.put, List.setIfInBounds_toArray, List.set_cons_zero, List.set_cons_succ]
                refine doneL (by kernel_rfl) ?_ _
                go_wp2_with fail
                go_meet
                have e1 : w2.heap.size ≤ w8.heap.size := bjw8.out.size
                have e2 : w9.heap.size ≤ w10.heap.size := Ij'w10.out.hi_le
                case rel => exact ⟨w9.heap.size, rfl, Aw9, kw9, w8.heap.size, w9.heap.size, by omega, e1, Nat.le_trans e2 (Nat.le_of_eq (by simp [World.setCell])), by omega, ((Vjw10.out.set 0 _).set 1 _).set 2 _, Ints.setc3 Ij'w10.out (b := w9.heap.size) (by omega) _ _ _, ((bjw10.out.setCell (by show w2.heap.size ≤ w9.heap.size; omega) _).setCell (by show w2.heap.size ≤ w9.heap.size; omega) _).setCell (by show w2.heap.size ≤ w9.heap.size; omega) _⟩
              refine AllReadyL.cons (o := ?_) ?_ (fun K hK => ?_) ?_
              rotate_left
              · (simp only [List.getElem?_toArray, List.getElem?_cons_succ, List.getElem?_cons_zero]; rfl)
              · go_simp
                have hbw11 : Below (w8).heap.size (w8) (w8.alloc (.cells #[.int .i64 0, .int .i64 0, .slice none 0 0] 30 (0, 0))) := by first | exact (Below.refl _ _).alloc (Nat.le_refl _) _ | exact (show Below (w2.drew).heap.size w2.drew (w2.drew.alloc (.cells #[.int .i64 0, .int .i64 0, .slice none 0 0] 30 (0, 0))) from (Below.refl _ _).alloc (Nat.le_refl _) _)
                have haw11 : w2.heap.size ≤ w8.heap.size := bjw8.out.size
                have hyw11 : (w8).heap.size < (w8.alloc (.cells #[.int .i64 0, .int .i64 0, .slice none 0 0] 30 (0, 0))).heap.size := by simp
                have Zw11 : Hid (VB (w8.alloc (.cells #[.int .i64 0, .int .i64 0, .slice none 0 0] 30 (0, 0))) (w8.heap.size) [.int .i64 0, .int .i64 0, .slice none 0 0]) := Lib.hid (by first | exact VB.new (cs := [.int .i64 0, .int .i64 0, .slice none 0 0]) rfl | exact VB.drew (VB.new (cs := [.int .i64 0, .int .i64 0, .slice none 0 0]) rfl))
                generalize (w8.alloc (.cells #[.int .i64 0, .int .i64 0, .slice none 0 0] 30 (0, 0))) = w11 at *
                clear liw8 ciw8_0 ciw8_1 ciw8_2 fiw8_0 fiw8_1 fiw8_2
                have bbw11 := Lib.hid (later bbw8.out hbw11)
                have hzw11 := hbw11.size
                have Viw11 := Lib.hid (Viw8.out.step hbw11)
                have Iiw11 : Hid _ := Lib.hid (Iiw8.out.step hbw11)
                clear Viw8
                clear Iiw8
                obtain ⟨liw11, ciw11_0, ciw11_1, ciw11_2, fiw11_0, fiw11_1, fiw11_2⟩ := Viw11.out.open3
                have bjw11 := Lib.hid (later bjw8.out hbw11)
                clear liw11 ciw11_0 ciw11_1 ciw11_2 fiw11_0 fiw11_1 fiw11_2
                have Vjw11 := Zw11
                obtain ⟨liw11, ciw11_0, ciw11_1, ciw11_2, fiw11_0, fiw11_1, fiw11_2⟩ := Viw11.out.open3
                obtain ⟨ljw11, cjw11_0, cjw11_1, cjw11_2, fjw11_0, fjw11_1, fjw11_2⟩ := Vjw11.out.open3
                have B9 := hbw11
                refine hK.out _ _ ?_ (fun hHeld => ?_)
                · (first | exact VB.step hHeld B9 | exact VB.drew Viw2.out)
                clear hK K
                try simp only [Act.put, List.setIfInBounds_toArray, List.set_cons_zero, List.set_cons_succ]
                refine readyL (rs := [17]) (by kernel_rfl) (by simp) ?_
                refine AllReadyL.cons (o := ?_) ?_ (fun K hK => ?_) AllReadyL.none_
                rotate_left
                · (simp only [List.getElem?_toArray, List.getElem?_cons_succ, List.getElem?_cons_zero]; rfl)
                go_simp
                go_at_call 22
                ((with_reducible refine (specFillV _ _ _ _ _ _ _ _ _ zs ds _ _ _ _ _ _ HF.out Iiw11.out hnz).mono ?_))
                rintro e w12 ⟨Aw12, kw12, rfl, Ow12, hbw12⟩
                have Pw12 := Lib.hid Ow12
                clear Ow12
                clear liw11 ciw11_0 ciw11_1 ciw11_2 fiw11_0 fiw11_1 fiw11_2 ljw11 cjw11_0 cjw11_1 cjw11_2 fjw11_0 fjw11_1 fjw11_2
                have bbw12 := Lib.hid (later bbw11.out hbw12)
                have hzw12 := hbw12.size
                have Viw12 := Lib.hid (Viw11.out.step hbw12)
                have Vjw12 := Lib.hid (Vjw11.out.step hbw12)
                have Iiw12 : Hid _ := Lib.hid (Iiw11.out.step hbw12)
                clear Viw11
                clear Vjw11
                clear Iiw11
                obtain ⟨liw12, ciw12_0, ciw12_1, ciw12_2, fiw12_0, fiw12_1, fiw12_2⟩ := Viw12.out.open3
                obtain ⟨ljw12, cjw12_0, cjw12_1, cjw12_2, fjw12_0, fjw12_1, fjw12_2⟩ := Vjw12.out.open3
                have Ij'w12 := Pw12
                clear Pw12
                have bjw12 := Lib.hid (later bjw11.out hbw12)
                have B9 := hbw12
                refine hK.out _ _ ?_ (fun hHeld => ?_)
                · (first | exact VB.step hHeld B9 | exact VB.drew Viw2.out)
                clear hK K
                try simp only [Act.put, List.setIfInBounds_toArray, List.set_cons_zero, List.set_cons_succ]
                refine readyL (rs := [19]) (by kernel_rfl) (by simp) ?_
                refine AllReadyL.last (o := ?_) ?_ (fun K hK => ?_)
                rotate_left
                · (simp only [List.getElem?_toArray, List.getElem?_cons_succ, List.getElem?_cons_zero]; rfl)
                go_simp
                refine hK.out _ _ ?_
                clear hK K
                try simp only [Act.put, List.setIfInBounds_toArray, List.set_cons_zero, List.set_cons_succ]
                refine doneL (by kernel_rfl) ?_ _
                go_wp2_with fail
                go_meet
                have e1 : w2.heap.size ≤ w11.heap.size := bjw11.out.size
                have e2 : w12.heap.size ≤ w12.heap.size := Ij'w12.out.hi_le
                case rel => exact ⟨w8.heap.size, rfl, Aw12, kw12, w11.heap.size, w12.heap.size, by omega, e1, Nat.le_trans e2 (Nat.le_of_eq (by simp [World.setCell])), by omega, ((Vjw12.out.set 0 _).set 1 _).set 2 _, Ints.setc3 Ij'w12.out (b := w8.heap.size) (by omega) _ _ _, ((bjw12.out.setCell (by show w2.heap.size ≤ w8.heap.size; omega) _).setCell (by show w2.heap.size ≤ w8.heap.size; omega) _).setCell (by show w2.heap.size ≤ w8.heap.size; omega) _⟩
              exact AllReadyL.none_
            refine AllReadyL.cons (o := ?_) ?_ (fun K hK => ?_) ?_
            rotate_left
            · (simp only [List.getElem?_toArray, List.getElem?_cons_succ, List.getElem?_cons_zero]; rfl)
            · go_simp
              have hbw13 : Below (w7).heap.size (w7) (w7.alloc (.cells #[.int .i64 0, .int .i64 0, .slice none 0 0] 30 (0, 0))) := by first | exact (Below.refl _ _).alloc (Nat.le_refl _) _ | exact (show Below (w2.drew).heap.size w2.drew (w2.drew.alloc (.cells #[.int .i64 0, .int .i64 0, .slice none 0 0] 30 (0, 0))) from (Below.refl _ _).alloc (Nat.le_refl _) _)
              have haw13 : w2.heap.size ≤ w7.heap.size := bjw7.out.size
              have hyw13 : (w7).heap.size < (w7.alloc (.cells #[.int .i64 0, .int .i64 0, .slice none 0 0] 30 (0, 0))).heap.size := by simp
              have Zw13 : Hid (VB (w7.alloc (.cells #[.int .i64 0, .int .i64 0, .slice none 0 0] 30 (0, 0))) (w7.heap.size) [.int .i64 0, .int .i64 0, .slice none 0 0]) := Lib.hid (by first | exact VB.new (cs := [.int .i64 0, .int .i64 0, .slice none 0 0]) rfl | exact VB.drew (VB.new (cs := [.int .i64 0, .int .i64 0, .slice none 0 0]) rfl))
              generalize (w7.alloc (.cells #[.int .i64 0, .int .i64 0, .slice none 0 0] 30 (0, 0))) = w13 at *
              clear liw7 ciw7_0 ciw7_1 ciw7_2 fiw7_0 fiw7_1 fiw7_2
              have bbw13 := Lib.hid (later bbw7.out hbw13)
              have hzw13 := hbw13.size
              have Viw13 := Lib.hid (Viw7.out.step hbw13)
              have Iiw13 : Hid _ := Lib.hid (Iiw7.out.step hbw13)
              clear Viw7
              clear Iiw7
              obtain ⟨liw13, ciw13_0, ciw13_1, ciw13_2, fiw13_0, fiw13_1, fiw13_2⟩ := Viw13.out.open3
              have bjw13 := Lib.hid (later bjw7.out hbw13)
              clear liw13 ciw13_0 ciw13_1 ciw13_2 fiw13_0 fiw13_1 fiw13_2
              have Vjw13 := Zw13
              obtain ⟨liw13, ciw13_0, ciw13_1, ciw13_2, fiw13_0, fiw13_1, fiw13_2⟩ := Viw13.out.open3
              obtain ⟨ljw13, cjw13_0, cjw13_1, cjw13_2, fjw13_0, fjw13_1, fjw13_2⟩ := Vjw13.out.open3
              have B9 := hbw13
              refine hK.out _ _ ?_ (fun hHeld => ?_)
              · (first | exact VB.step hHeld B9 | exact VB.drew Viw2.out)
              clear hK K
              try simp only [Act.put, List.setIfInBounds_toArray, List.set_cons_zero, List.set_cons_succ]
              refine readyL (rs := [15]) (by kernel_rfl) (by simp) ?_
              refine AllReadyL.cons (o := ?_) ?_ (fun K hK => ?_) AllReadyL.none_
              rotate_left
              · (simp only [List.getElem?_toArray, List.getElem?_cons_succ, List.getElem?_cons_zero]; rfl)
              go_simp
              go_at_call 23
              ((with_reducible refine (atB _ _ _ z 4 v4 _ E4.out (isRow_below HR.out bbw13.out) (by omega) (by omega)).mono ?_))
              rintro e w14 ⟨rfl, hbw14⟩
              clear liw13 ciw13_0 ciw13_1 ciw13_2 fiw13_0 fiw13_1 fiw13_2 ljw13 cjw13_0 cjw13_1 cjw13_2 fjw13_0 fjw13_1 fjw13_2
              have bbw14 := Lib.hid (later bbw13.out hbw14)
              have hzw14 := hbw14.size
              have Viw14 := Lib.hid (Viw13.out.step hbw14)
              have Vjw14 := Lib.hid (Vjw13.out.step hbw14)
              have Iiw14 : Hid _ := Lib.hid (Iiw13.out.step hbw14)
              clear Viw13
              clear Vjw13
              clear Iiw13
              obtain ⟨liw14, ciw14_0, ciw14_1, ciw14_2, fiw14_0, fiw14_1, fiw14_2⟩ := Viw14.out.open3
              obtain ⟨ljw14, cjw14_0, cjw14_1, cjw14_2, fjw14_0, fjw14_1, fjw14_2⟩ := Vjw14.out.open3
              have bjw14 := Lib.hid (later bjw13.out hbw14)
              have B9 := hbw14
              refine hK.out _ _ ?_ (fun hHeld => ?_)
              · (first | exact VB.step hHeld B9 | exact VB.drew Viw2.out)
              clear hK K
              try simp only [Act.put, List.setIfInBounds_toArray, List.set_cons_zero, List.set_cons_succ]
              refine takeL (i := 16) (oi := ?_) (v := ?_) ?_ (by kernel_rfl) (by kernel_rfl) (by kernel_rfl) (by kernel_rfl) ?_ (Or.inl ⟨?_, ?_⟩) (by assumption) ?_
              rotate_left 2
              · (simp only [List.getElem?_toArray, List.getElem?_cons_succ, List.getElem?_cons_zero]; rfl)
              · exact fun _ _ _ h => h
              · rfl
              · (intro w hSw; (try dsimp only at hSw); have S0 := hSw; obtain ⟨l0S, c0S0, c0S1, c0S2, _⟩ := S0.open3; clear S0; go_simp; (try with_reducible rfl))
              try simp only [Act.put, List.setIfInBounds_toArray, List.set_cons_zero, List.set_cons_succ]
              refine readyL (rs := [17]) (by kernel_rfl) (by simp) ?_
              refine AllReadyL.cons (o := ?_) ?_ (fun K hK => ?_) AllReadyL.none_
              rotate_left
              · (simp only [List.getElem?_toArray, List.getElem?_cons_succ, List.getElem?_cons_zero]; rfl)
              go_simp
              go_at_call 22
              ((with_reducible refine (specFillV _ _ _ _ _ _ _ _ _ zs ds _ _ _ _ _ _ HF.out Iiw14.out hnz).mono ?_))
              rintro e w15 ⟨Aw15, kw15, rfl, Ow15, hbw15⟩
              have Pw15 := Lib.hid Ow15
              clear Ow15
              clear liw14 ciw14_0 ciw14_1 ciw14_2 fiw14_0 fiw14_1 fiw14_2 ljw14 cjw14_0 cjw14_1 cjw14_2 fjw14_0 fjw14_1 fjw14_2
              have bbw15 := Lib.hid (later bbw14.out hbw15)
              have hzw15 := hbw15.size
              have Viw15 := Lib.hid (Viw14.out.step hbw15)
              have Vjw15 := Lib.hid (Vjw14.out.step hbw15)
              have Iiw15 : Hid _ := Lib.hid (Iiw14.out.step hbw15)
              clear Viw14
              clear Vjw14
              clear Iiw14
              obtain ⟨liw15, ciw15_0, ciw15_1, ciw15_2, fiw15_0, fiw15_1, fiw15_2⟩ := Viw15.out.open3
              obtain ⟨ljw15, cjw15_0, cjw15_1, cjw15_2, fjw15_0, fjw15_1, fjw15_2⟩ := Vjw15.out.open3
              have Ij'w15 := Pw15
              clear Pw15
              have bjw15 := Lib.hid (later bjw14.out hbw15)
              have B9 := hbw15
              refine hK.out _ _ ?_ (fun hHeld => ?_)
              · (first | exact VB.step hHeld B9 | exact VB.drew Viw2.out)
              clear hK K
              try simp only [Act.put, List.setIfInBounds_toArray, List.set_cons_zero, List.set_cons_succ]
              refine readyL (rs := [19]) (by kernel_rfl) (by simp) ?_
              refine AllReadyL.last (o := ?_) ?_ (fun K hK => ?_)
              rotate_left
              · (simp only [List.getElem?_toArray, List.getElem?_cons_succ, List.getElem?_cons_zero]; rfl)
              go_simp
              refine hK.out _ _ ?_
              clear hK K
              try simp only [Act.put, List.setIfInBounds_toArray, List.set_cons_zero, List.set_cons_succ]
              refine doneL (by kernel_rfl) ?_ _
              go_wp2_with fail
              go_meet
              have e1 : w2.heap.size ≤ w14.heap.size := bjw14.out.size
              have e2 : w15.heap.size ≤ w15.heap.size := Ij'w15.out.hi_le
              case rel => exact ⟨w7.heap.size, rfl, Aw15, kw15, w14.heap.size, w15.heap.size, by omega, e1, Nat.le_trans e2 (Nat.le_of_eq (by simp [World.setCell])), by omega, ((Vjw15.out.set 0 _).set 1 _).set 2 _, Ints.setc3 Ij'w15.out (b := w7.heap.size) (by omega) _ _ _, ((bjw15.out.setCell (by show w2.heap.size ≤ w7.heap.size; omega) _).setCell (by show w2.heap.size ≤ w7.heap.size; omega) _).setCell (by show w2.heap.size ≤ w7.heap.size; omega) _⟩
            exact AllReadyL.none_
          refine AllReadyL.cons (o := ?_) ?_ (fun K hK => ?_) ?_
          rotate_left
          · (simp only [List.getElem?_toArray, List.getElem?_cons_succ, List.getElem?_cons_zero]; rfl)
          · go_simp
            have hbw16 : Below (w6).heap.size (w6) (w6.alloc (.cells #[.int .i64 0, .int .i64 0, .slice none 0 0] 30 (0, 0))) := by first | exact (Below.refl _ _).alloc (Nat.le_refl _) _ | exact (show Below (w2.drew).heap.size w2.drew (w2.drew.alloc (.cells #[.int .i64 0, .int .i64 0, .slice none 0 0] 30 (0, 0))) from (Below.refl _ _).alloc (Nat.le_refl _) _)
            have haw16 : w2.heap.size ≤ w6.heap.size := bjw6.out.size
            have hyw16 : (w6).heap.size < (w6.alloc (.cells #[.int .i64 0, .int .i64 0, .slice none 0 0] 30 (0, 0))).heap.size := by simp
            have Zw16 : Hid (VB (w6.alloc (.cells #[.int .i64 0, .int .i64 0, .slice none 0 0] 30 (0, 0))) (w6.heap.size) [.int .i64 0, .int .i64 0, .slice none 0 0]) := Lib.hid (by first | exact VB.new (cs := [.int .i64 0, .int .i64 0, .slice none 0 0]) rfl | exact VB.drew (VB.new (cs := [.int .i64 0, .int .i64 0, .slice none 0 0]) rfl))
            generalize (w6.alloc (.cells #[.int .i64 0, .int .i64 0, .slice none 0 0] 30 (0, 0))) = w16 at *
            clear liw6 ciw6_0 ciw6_1 ciw6_2 fiw6_0 fiw6_1 fiw6_2
            have bbw16 := Lib.hid (later bbw6.out hbw16)
            have hzw16 := hbw16.size
            have Viw16 := Lib.hid (Viw6.out.step hbw16)
            have Iiw16 : Hid _ := Lib.hid (Iiw6.out.step hbw16)
            clear Viw6
            clear Iiw6
            obtain ⟨liw16, ciw16_0, ciw16_1, ciw16_2, fiw16_0, fiw16_1, fiw16_2⟩ := Viw16.out.open3
            have bjw16 := Lib.hid (later bjw6.out hbw16)
            clear liw16 ciw16_0 ciw16_1 ciw16_2 fiw16_0 fiw16_1 fiw16_2
            have Vjw16 := Zw16
            obtain ⟨liw16, ciw16_0, ciw16_1, ciw16_2, fiw16_0, fiw16_1, fiw16_2⟩ := Viw16.out.open3
            obtain ⟨ljw16, cjw16_0, cjw16_1, cjw16_2, fjw16_0, fjw16_1, fjw16_2⟩ := Vjw16.out.open3
            have B9 := hbw16
            refine hK.out _ _ ?_ (fun hHeld => ?_)
            · (first | exact VB.step hHeld B9 | exact VB.drew Viw2.out)
            clear hK K
            try simp only [Act.put, List.setIfInBounds_toArray, List.set_cons_zero, List.set_cons_succ]
            refine readyL (rs := [11]) (by kernel_rfl) (by simp) ?_
            refine AllReadyL.cons (o := ?_) ?_ (fun K hK => ?_) AllReadyL.none_
            rotate_left
            · (simp only [List.getElem?_toArray, List.getElem?_cons_succ, List.getElem?_cons_zero]; rfl)
            go_simp
            go_at_call 23
            ((with_reducible refine (atB _ _ _ z 3 v3 _ E3.out (isRow_below HR.out bbw16.out) (by omega) (by omega)).mono ?_))
            rintro e w17 ⟨rfl, hbw17⟩
            clear liw16 ciw16_0 ciw16_1 ciw16_2 fiw16_0 fiw16_1 fiw16_2 ljw16 cjw16_0 cjw16_1 cjw16_2 fjw16_0 fjw16_1 fjw16_2
            have bbw17 := Lib.hid (later bbw16.out hbw17)
            have hzw17 := hbw17.size
            have Viw17 := Lib.hid (Viw16.out.step hbw17)
            have Vjw17 := Lib.hid (Vjw16.out.step hbw17)
            have Iiw17 : Hid _ := Lib.hid (Iiw16.out.step hbw17)
            clear Viw16
            clear Vjw16
            clear Iiw16
            obtain ⟨liw17, ciw17_0, ciw17_1, ciw17_2, fiw17_0, fiw17_1, fiw17_2⟩ := Viw17.out.open3
            obtain ⟨ljw17, cjw17_0, cjw17_1, cjw17_2, fjw17_0, fjw17_1, fjw17_2⟩ := Vjw17.out.open3
            have bjw17 := Lib.hid (later bjw16.out hbw17)
            have B9 := hbw17
            refine hK.out _ _ ?_ (fun hHeld => ?_)
            · (first | exact VB.step hHeld B9 | exact VB.drew Viw2.out)
            clear hK K
            try simp only [Act.put, List.setIfInBounds_toArray, List.set_cons_zero, List.set_cons_succ]
            refine takeL (i := 12) (oi := ?_) (v := ?_) ?_ (by kernel_rfl) (by kernel_rfl) (by kernel_rfl) (by kernel_rfl) ?_ (Or.inl ⟨?_, ?_⟩) (by assumption) ?_
            rotate_left 2
            · (simp only [List.getElem?_toArray, List.getElem?_cons_succ, List.getElem?_cons_zero]; rfl)
            · exact fun _ _ _ h => h
            · rfl
            · (intro w hSw; (try dsimp only at hSw); have S0 := hSw; obtain ⟨l0S, c0S0, c0S1, c0S2, _⟩ := S0.open3; clear S0; go_simp; (try with_reducible rfl))
            try simp only [Act.put, List.setIfInBounds_toArray, List.set_cons_zero, List.set_cons_succ]
            refine takeL (i := 13) (oi := ?_) (v := ?_) ?_ (by kernel_rfl) (by kernel_rfl) (by kernel_rfl) (by kernel_rfl) ?_ (Or.inl ⟨?_, ?_⟩) (by assumption) ?_
            rotate_left 2
            · (simp only [List.getElem?_toArray, List.getElem?_cons_succ, List.getElem?_cons_zero]; rfl)
            · exact fun _ _ _ h => h
            · rfl
            · (intro w hSw; (try dsimp only at hSw); have S0 := hSw; obtain ⟨l0S, c0S0, c0S1, c0S2, _⟩ := S0.open3; clear S0; go_simp; (try with_reducible rfl))
            try simp only [Act.put, List.setIfInBounds_toArray, List.set_cons_zero, List.set_cons_succ]
            refine readyL (rs := [15]) (by kernel_rfl) (by simp) ?_
            refine AllReadyL.cons (o := ?_) ?_ (fun K hK => ?_) AllReadyL.none_
            rotate_left
            · (simp only [List.getElem?_toArray, List.getElem?_cons_succ, List.getElem?_cons_zero]; rfl)
            go_simp
            go_at_call 23
            ((with_reducible refine (atB _ _ _ z 4 v4 _ E4.out (isRow_below HR.out bbw17.out) (by omega) (by omega)).mono ?_))
            rintro e w18 ⟨rfl, hbw18⟩
            clear liw17 ciw17_0 ciw17_1 ciw17_2 fiw17_0 fiw17_1 fiw17_2 ljw17 cjw17_0 cjw17_1 cjw17_2 fjw17_0 fjw17_1 fjw17_2
            have bbw18 := Lib.hid (later bbw17.out hbw18)
            have hzw18 := hbw18.size
            have Viw18 := Lib.hid (Viw17.out.step hbw18)
            have Vjw18 := Lib.hid (Vjw17.out.step hbw18)
            have Iiw18 : Hid _ := Lib.hid (Iiw17.out.step hbw18)
            clear Viw17
            clear Vjw17
            clear Iiw17
            obtain ⟨liw18, ciw18_0, ciw18_1, ciw18_2, fiw18_0, fiw18_1, fiw18_2⟩ := Viw18.out.open3
            obtain ⟨ljw18, cjw18_0, cjw18_1, cjw18_2, fjw18_0, fjw18_1, fjw18_2⟩ := Vjw18.out.open3
            have bjw18 := Lib.hid (later bjw17.out hbw18)
            have B9 := hbw18
            refine hK.out _ _ ?_ (fun hHeld => ?_)
            · (first | exact VB.step hHeld B9 | exact VB.drew Viw2.out)
            clear hK K
            try simp only [Act.put, List.setIfInBounds_toArray, List.set_cons_zero, List.set_cons_succ]
            refine takeL (i := 16) (oi := ?_) (v := ?_) ?_ (by kernel_rfl) (by kernel_rfl) (by kernel_rfl) (by kernel_rfl) ?_ (Or.inl ⟨?_, ?_⟩) (by assumption) ?_
            rotate_left 2
            · (simp only [List.getElem?_toArray, List.getElem?_cons_succ, List.getElem?_cons_zero]; rfl)
            · exact fun _ _ _ h => h
            · rfl
            · (intro w hSw; (try dsimp only at hSw); have S0 := hSw; obtain ⟨l0S, c0S0, c0S1, c0S2, _⟩ := S0.open3; clear S0; go_simp; (try with_reducible rfl))
            try simp only [Act.put, List.setIfInBounds_toArray, List.set_cons_zero, List.set_cons_succ]
            refine readyL (rs := [17]) (by kernel_rfl) (by simp) ?_
            refine AllReadyL.cons (o := ?_) ?_ (fun K hK => ?_) AllReadyL.none_
            rotate_left
            · (simp only [List.getElem?_toArray, List.getElem?_cons_succ, List.getElem?_cons_zero]; rfl)
            go_simp
            go_at_call 22
            ((with_reducible refine (specFillV _ _ _ _ _ _ _ _ _ zs ds _ _ _ _ _ _ HF.out Iiw18.out hnz).mono ?_))
            rintro e w19 ⟨Aw19, kw19, rfl, Ow19, hbw19⟩
            have Pw19 := Lib.hid Ow19
            clear Ow19
            clear liw18 ciw18_0 ciw18_1 ciw18_2 fiw18_0 fiw18_1 fiw18_2 ljw18 cjw18_0 cjw18_1 cjw18_2 fjw18_0 fjw18_1 fjw18_2
            have bbw19 := Lib.hid (later bbw18.out hbw19)
            have hzw19 := hbw19.size
            have Viw19 := Lib.hid (Viw18.out.step hbw19)
            have Vjw19 := Lib.hid (Vjw18.out.step hbw19)
            have Iiw19 : Hid _ := Lib.hid (Iiw18.out.step hbw19)
            clear Viw18
            clear Vjw18
            clear Iiw18
            obtain ⟨liw19, ciw19_0, ciw19_1, ciw19_2, fiw19_0, fiw19_1, fiw19_2⟩ := Viw19.out.open3
            obtain ⟨ljw19, cjw19_0, cjw19_1, cjw19_2, fjw19_0, fjw19_1, fjw19_2⟩ := Vjw19.out.open3
            have Ij'w19 := Pw19
            clear Pw19
            have bjw19 := Lib.hid (later bjw18.out hbw19)
            have B9 := hbw19
            refine hK.out _ _ ?_ (fun hHeld => ?_)
            · (first | exact VB.step hHeld B9 | exact VB.drew Viw2.out)
            clear hK K
            try simp only [Act.put, List.setIfInBounds_toArray, List.set_cons_zero, List.set_cons_succ]
            refine readyL (rs := [19]) (by kernel_rfl) (by simp) ?_
            refine AllReadyL.last (o := ?_) ?_ (fun K hK => ?_)
            rotate_left
            · (simp only [List.getElem?_toArray, List.getElem?_cons_succ, List.getElem?_cons_zero]; rfl)
            go_simp
            refine hK.out _ _ ?_
            clear hK K
            try simp only [Act.put, List.setIfInBounds_toArray, List.set_cons_zero, List.set_cons_succ]
            refine doneL (by kernel_rfl) ?_ _
            go_wp2_with fail
            go_meet
            have e1 : w2.heap.size ≤ w18.heap.size := bjw18.out.size
            have e2 : w19.heap.size ≤ w19.heap.size := Ij'w19.out.hi_le
            case rel => exact ⟨w6.heap.size, rfl, Aw19, kw19, w18.heap.size, w19.heap.size, by omega, e1, Nat.le_trans e2 (Nat.le_of_eq (by simp [World.setCell])), by omega, ((Vjw19.out.set 0 _).set 1 _).set 2 _, Ints.setc3 Ij'w19.out (b := w6.heap.size) (by omega) _ _ _, ((bjw19.out.setCell (by show w2.heap.size ≤ w6.heap.size; omega) _).setCell (by show w2.heap.size ≤ w6.heap.size; omega) _).setCell (by show w2.heap.size ≤ w6.heap.size; omega) _⟩
          exact AllReadyL.none_
        refine AllReadyL.cons (o := ?_) ?_ (fun K hK => ?_) ?_
        rotate_left
        · (simp only [List.getElem?_toArray, List.getElem?_cons_succ, List.getElem?_cons_zero]; rfl)
        · go_simp
          have hbw20 : Below (w5).heap.size (w5) (w5.alloc (.cells #[.int .i64 0, .int .i64 0, .slice none 0 0] 30 (0, 0))) := by first | exact (Below.refl _ _).alloc (Nat.le_refl _) _ | exact (show Below (w2.drew).heap.size w2.drew (w2.drew.alloc (.cells #[.int .i64 0, .int .i64 0, .slice none 0 0] 30 (0, 0))) from (Below.refl _ _).alloc (Nat.le_refl _) _)
          have haw20 : w2.heap.size ≤ w5.heap.size := bjw5.out.size
          have hyw20 : (w5).heap.size < (w5.alloc (.cells #[.int .i64 0, .int .i64 0, .slice none 0 0] 30 (0, 0))).heap.size := by simp
          have Zw20 : Hid (VB (w5.alloc (.cells #[.int .i64 0, .int .i64 0, .slice none 0 0] 30 (0, 0))) (w5.heap.size) [.int .i64 0, .int .i64 0, .slice none 0 0]) := Lib.hid (by first | exact VB.new (cs := [.int .i64 0, .int .i64 0, .slice none 0 0]) rfl | exact VB.drew (VB.new (cs := [.int .i64 0, .int .i64 0, .slice none 0 0]) rfl))
          generalize (w5.alloc (.cells #[.int .i64 0, .int .i64 0, .slice none 0 0] 30 (0, 0))) = w20 at *
          clear liw5 ciw5_0 ciw5_1 ciw5_2 fiw5_0 fiw5_1 fiw5_2
          have bbw20 := Lib.hid (later bbw5.out hbw20)
          have hzw20 := hbw20.size
          have Viw20 := Lib.hid (Viw5.out.step hbw20)
          have Iiw20 : Hid _ := Lib.hid (Iiw5.out.step hbw20)
          clear Viw5
          clear Iiw5
          obtain ⟨liw20, ciw20_0, ciw20_1, ciw20_2, fiw20_0, fiw20_1, fiw20_2⟩ := Viw20.out.open3
          have bjw20 := Lib.hid (later bjw5.out hbw20)
          clear liw20 ciw20_0 ciw20_1 ciw20_2 fiw20_0 fiw20_1 fiw20_2
          have Vjw20 := Zw20
          obtain ⟨liw20, ciw20_0, ciw20_1, ciw20_2, fiw20_0, fiw20_1, fiw20_2⟩ := Viw20.out.open3
          obtain ⟨ljw20, cjw20_0, cjw20_1, cjw20_2, fjw20_0, fjw20_1, fjw20_2⟩ := Vjw20.out.open3
          have B9 := hbw20
          refine hK.out _ _ ?_ (fun hHeld => ?_)
          · (first | exact VB.step hHeld B9 | exact VB.drew Viw2.out)
          clear hK K
          try simp only [Act.put, List.setIfInBounds_toArray, List.set_cons_zero, List.set_cons_succ]
          refine readyL (rs := [8]) (by kernel_rfl) (by simp) ?_
          refine AllReadyL.cons (o := ?_) ?_ (fun K hK => ?_) AllReadyL.none_
          rotate_left
          · (simp only [List.getElem?_toArray, List.getElem?_cons_succ, List.getElem?_cons_zero]; rfl)
          go_simp
          go_at_call 23
          ((with_reducible refine (atB _ _ _ z 2 v2 _ E2.out (isRow_below HR.out bbw20.out) (by omega) (by omega)).mono ?_))
          rintro e w21 ⟨rfl, hbw21⟩
          clear liw20 ciw20_0 ciw20_1 ciw20_2 fiw20_0 fiw20_1 fiw20_2 ljw20 cjw20_0 cjw20_1 cjw20_2 fjw20_0 fjw20_1 fjw20_2
          have bbw21 := Lib.hid (later bbw20.out hbw21)
          have hzw21 := hbw21.size
          have Viw21 := Lib.hid (Viw20.out.step hbw21)
          have Vjw21 := Lib.hid (Vjw20.out.step hbw21)
          have Iiw21 : Hid _ := Lib.hid (Iiw20.out.step hbw21)
          clear Viw20
          clear Vjw20
          clear Iiw20
          obtain ⟨liw21, ciw21_0, ciw21_1, ciw21_2, fiw21_0, fiw21_1, fiw21_2⟩ := Viw21.out.open3
          obtain ⟨ljw21, cjw21_0, cjw21_1, cjw21_2, fjw21_0, fjw21_1, fjw21_2⟩ := Vjw21.out.open3
          have bjw21 := Lib.hid (later bjw20.out hbw21)
          have B9 := hbw21
          refine hK.out _ _ ?_ (fun hHeld => ?_)
          · (first | exact VB.step hHeld B9 | exact VB.drew Viw2.out)
          clear hK K
          try simp only [Act.put, List.setIfInBounds_toArray, List.set_cons_zero, List.set_cons_succ]
          refine takeL (i := 9) (oi := ?_) (v := ?_) ?_ (by kernel_rfl) (by kernel_rfl) (by kernel_rfl) (by kernel_rfl) ?_ (Or.inl ⟨?_, ?_⟩) (by assumption) ?_
          rotate_left 2
          · (simp only [List.getElem?_toArray, List.getElem?_cons_succ, List.getElem?_cons_zero]; rfl)
          · exact fun _ _ _ h => h
          · rfl
          · (intro w hSw; (try dsimp only at hSw); have S0 := hSw; obtain ⟨l0S, c0S0, c0S1, c0S2, _⟩ := S0.open3; clear S0; go_simp; (try with_reducible rfl))
          try simp only [Act.put, List.setIfInBounds_toArray, List.set_cons_zero, List.set_cons_succ]
          refine readyL (rs := [11]) (by kernel_rfl) (by simp) ?_
          refine AllReadyL.cons (o := ?_) ?_ (fun K hK => ?_) AllReadyL.none_
          rotate_left
          · (simp only [List.getElem?_toArray, List.getElem?_cons_succ, List.getElem?_cons_zero]; rfl)
          go_simp
          go_at_call 23
          ((with_reducible refine (atB _ _ _ z 3 v3 _ E3.out (isRow_below HR.out bbw21.out) (by omega) (by omega)).mono ?_))
          rintro e w22 ⟨rfl, hbw22⟩
          clear liw21 ciw21_0 ciw21_1 ciw21_2 fiw21_0 fiw21_1 fiw21_2 ljw21 cjw21_0 cjw21_1 cjw21_2 fjw21_0 fjw21_1 fjw21_2
          have bbw22 := Lib.hid (later bbw21.out hbw22)
          have hzw22 := hbw22.size
          have Viw22 := Lib.hid (Viw21.out.step hbw22)
          have Vjw22 := Lib.hid (Vjw21.out.step hbw22)
          have Iiw22 : Hid _ := Lib.hid (Iiw21.out.step hbw22)
          clear Viw21
          clear Vjw21
          clear Iiw21
          obtain ⟨liw22, ciw22_0, ciw22_1, ciw22_2, fiw22_0, fiw22_1, fiw22_2⟩ := Viw22.out.open3
          obtain ⟨ljw22, cjw22_0, cjw22_1, cjw22_2, fjw22_0, fjw22_1, fjw22_2⟩ := Vjw22.out.open3
          have bjw22 := Lib.hid (later bjw21.out hbw22)
          have B9 := hbw22
          refine hK.out _ _ ?_ (fun hHeld => ?_)
          · (first | exact VB.step hHeld B9 | exact VB.drew Viw2.out)
          clear hK K
          try simp only [Act.put, List.setIfInBounds_toArray, List.set_cons_zero, List.set_cons_succ]
          refine takeL (i := 12) (oi := ?_) (v := ?_) ?_ (by kernel_rfl) (by kernel_rfl) (by kernel_rfl) (by kernel_rfl) ?_ (Or.inl ⟨?_, ?_⟩) (by assumption) ?_
          rotate_left 2
          · (simp only [List.getElem?_toArray, List.getElem?_cons_succ, List.getElem?_cons_zero]; rfl)
          · exact fun _ _ _ h => h
          · rfl
          · (intro w hSw; (try dsimp only at hSw); have S0 := hSw; obtain ⟨l0S, c0S0, c0S1, c0S2, _⟩ := S0.open3; clear S0; go_simp; (try with_reducible rfl))
          try simp only [Act.put, List.setIfInBounds_toArray, List.set_cons_zero, List.set_cons_succ]
          refine takeL (i := 13) (oi := ?_) (v := ?_) ?_ (by kernel_rfl) (by kernel_rfl) (by kernel_rfl) (by kernel_rfl) ?_ (Or.inl ⟨?_, ?_⟩) (by assumption) ?_
          rotate_left 2
          · (simp only [List.getElem?_toArray, List.getElem?_cons_succ, List.getElem?_cons_zero]; rfl)
          · exact fun _ _ _ h => h
          · rfl
          · (intro w hSw; (try dsimp only at hSw); have S0 := hSw; obtain ⟨l0S, c0S0, c0S1, c0S2, _⟩ := S0.open3; clear S0; go_simp; (try with_reducible rfl))
          try simp only [Act.put, List.setIfInBounds_toArray, List.set_cons_zero, List.set_cons_succ]
          refine readyL (rs := [15]) (by kernel_rfl) (by simp) ?_
          refine AllReadyL.cons (o := ?_) ?_ (fun K hK => ?_) AllReadyL.none_
          rotate_left
          · (simp only [List.getElem?_toArray, List.getElem?_cons_succ, List.getElem?_cons_zero]; rfl)
          go_simp
          go_at_call 23
          ((with_reducible refine (atB _ _ _ z 4 v4 _ E4.out (isRow_below HR.out bbw22.out) (by omega) (by omega)).mono ?_))
          rintro e w23 ⟨rfl, hbw23⟩
          clear liw22 ciw22_0 ciw22_1 ciw22_2 fiw22_0 fiw22_1 fiw22_2 ljw22 cjw22_0 cjw22_1 cjw22_2 fjw22_0 fjw22_1 fjw22_2
          have bbw23 := Lib.hid (later bbw22.out hbw23)
          have hzw23 := hbw23.size
          have Viw23 := Lib.hid (Viw22.out.step hbw23)
          have Vjw23 := Lib.hid (Vjw22.out.step hbw23)
          have Iiw23 : Hid _ := Lib.hid (Iiw22.out.step hbw23)
          clear Viw22
          clear Vjw22
          clear Iiw22
          obtain ⟨liw23, ciw23_0, ciw23_1, ciw23_2, fiw23_0, fiw23_1, fiw23_2⟩ := Viw23.out.open3
          obtain ⟨ljw23, cjw23_0, cjw23_1, cjw23_2, fjw23_0, fjw23_1, fjw23_2⟩ := Vjw23.out.open3
          have bjw23 := Lib.hid (later bjw22.out hbw23)
          have B9 := hbw23
          refine hK.out _ _ ?_ (fun hHeld => ?_)
          · (first | exact VB.step hHeld B9 | exact VB.drew Viw2.out)
          clear hK K
          try simp only [Act.put, List.setIfInBounds_toArray, List.set_cons_zero, List.set_cons_succ]
          refine takeL (i := 16) (oi := ?_) (v := ?_) ?_ (by kernel_rfl) (by kernel_rfl) (by kernel_rfl) (by kernel_rfl) ?_ (Or.inl ⟨?_, ?_⟩) (by assumption) ?_
          rotate_left 2
          · (simp only [List.getElem?_toArray, List.getElem?_cons_succ, List.getElem?_cons_zero]; rfl)
          · exact fun _ _ _ h => h
          · rfl
          · (intro w hSw; (try dsimp only at hSw); have S0 := hSw; obtain ⟨l0S, c0S0, c0S1, c0S2, _⟩ := S0.open3; clear S0; go_simp; (try with_reducible rfl))
          try simp only [Act.put, List.setIfInBounds_toArray, List.set_cons_zero, List.set_cons_succ]
          refine readyL (rs := [17]) (by kernel_rfl) (by simp) ?_
          refine AllReadyL.cons (o := ?_) ?_ (fun K hK => ?_) AllReadyL.none_
          rotate_left
          · (simp only [List.getElem?_toArray, List.getElem?_cons_succ, List.getElem?_cons_zero]; rfl)
          go_simp
          go_at_call 22
          ((with_reducible refine (specFillV _ _ _ _ _ _ _ _ _ zs ds _ _ _ _ _ _ HF.out Iiw23.out hnz).mono ?_))
          rintro e w24 ⟨Aw24, kw24, rfl, Ow24, hbw24⟩
          have Pw24 := Lib.hid Ow24
          clear Ow24
          clear liw23 ciw23_0 ciw23_1 ciw23_2 fiw23_0 fiw23_1 fiw23_2 ljw23 cjw23_0 cjw23_1 cjw23_2 fjw23_0 fjw23_1 fjw23_2
          have bbw24 := Lib.hid (later bbw23.out hbw24)
          have hzw24 := hbw24.size
          have Viw24 := Lib.hid (Viw23.out.step hbw24)
          have Vjw24 := Lib.hid (Vjw23.out.step hbw24)
          have Iiw24 : Hid _ := Lib.hid (Iiw23.out.step hbw24)
          clear Viw23
          clear Vjw23
          clear Iiw23
          obtain ⟨liw24, ciw24_0, ciw24_1, ciw24_2, fiw24_0, fiw24_1, fiw24_2⟩ := Viw24.out.open3
          obtain ⟨ljw24, cjw24_0, cjw24_1, cjw24_2, fjw24_0, fjw24_1, fjw24_2⟩ := Vjw24.out.open3
          have Ij'w24 := Pw24
          clear Pw24
          have bjw24 := Lib.hid (later bjw23.out hbw24)
          have B9 := hbw24
          refine hK.out _ _ ?_ (fun hHeld => ?_)
          · (first | exact VB.step hHeld B9 | exact VB.drew Viw2.out)
          clear hK K
          try simp only [Act.put, List.setIfInBounds_toArray, List.set_cons_zero, List.set_cons_succ]
          refine readyL (rs := [19]) (by kernel_rfl) (by simp) ?_
          refine AllReadyL.last (o := ?_) ?_ (fun K hK => ?_)
          rotate_left
          · (simp only [List.getElem?_toArray, List.getElem?_cons_succ, List.getElem?_cons_zero]; rfl)
          go_simp
          refine hK.out _ _ ?_
          clear hK K
          try simp only [Act.put, List.setIfInBounds_toArray, List.set_cons_zero, List.set_cons_succ]
          refine doneL (by kernel_rfl) ?_ _
          go_wp2_with fail
          go_meet
          have e1 : w2.heap.size ≤ w23.heap.size := bjw23.out.size
          have e2 : w24.heap.size ≤ w24.heap.size := Ij'w24.out.hi_le
          case rel => exact ⟨w5.heap.size, rfl, Aw24, kw24, w23.heap.size, w24.heap.size, by omega, e1, Nat.le_trans e2 (Nat.le_of_eq (by simp [World.setCell])), by omega, ((Vjw24.out.set 0 _).set 1 _).set 2 _, Ints.setc3 Ij'w24.out (b := w5.heap.size) (by omega) _ _ _, ((bjw24.out.setCell (by show w2.heap.size ≤ w5.heap.size; omega) _).setCell (by show w2.heap.size ≤ w5.heap.size; omega) _).setCell (by show w2.heap.size ≤ w5.heap.size; omega) _⟩
        exact AllReadyL.none_
      refine AllReadyL.cons (o := ?_) ?_ (fun K hK => ?_) ?_
      rotate_left
      · (simp only [List.getElem?_toArray, List.getElem?_cons_succ, List.getElem?_cons_zero]; rfl)
      · go_simp
        have hbw25 : Below (w4).heap.size (w4) (w4.alloc (.cells #[.int .i64 0, .int .i64 0, .slice none 0 0] 30 (0, 0))) := by first | exact (Below.refl _ _).alloc (Nat.le_refl _) _ | exact (show Below (w2.drew).heap.size w2.drew (w2.drew.alloc (.cells #[.int .i64 0, .int .i64 0, .slice none 0 0] 30 (0, 0))) from (Below.refl _ _).alloc (Nat.le_refl _) _)
        have haw25 : w2.heap.size ≤ w4.heap.size := bjw4.out.size
        have hyw25 : (w4).heap.size < (w4.alloc (.cells #[.int .i64 0, .int .i64 0, .slice none 0 0] 30 (0, 0))).heap.size := by simp
        have Zw25 : Hid (VB (w4.alloc (.cells #[.int .i64 0, .int .i64 0, .slice none 0 0] 30 (0, 0))) (w4.heap.size) [.int .i64 0, .int .i64 0, .slice none 0 0]) := Lib.hid (by first | exact VB.new (cs := [.int .i64 0, .int .i64 0, .slice none 0 0]) rfl | exact VB.drew (VB.new (cs := [.int .i64 0, .int .i64 0, .slice none 0 0]) rfl))
        generalize (w4.alloc (.cells #[.int .i64 0, .int .i64 0, .slice none 0 0] 30 (0, 0))) = w25 at *
        clear liw4 ciw4_0 ciw4_1 ciw4_2 fiw4_0 fiw4_1 fiw4_2
        have bbw25 := Lib.hid (later bbw4.out hbw25)
        have hzw25 := hbw25.size
        have Viw25 := Lib.hid (Viw4.out.step hbw25)
        have Iiw25 : Hid _ := Lib.hid (Iiw4.out.step hbw25)
        clear Viw4
        clear Iiw4
        obtain ⟨liw25, ciw25_0, ciw25_1, ciw25_2, fiw25_0, fiw25_1, fiw25_2⟩ := Viw25.out.open3
        have bjw25 := Lib.hid (later bjw4.out hbw25)
        clear liw25 ciw25_0 ciw25_1 ciw25_2 fiw25_0 fiw25_1 fiw25_2
        have Vjw25 := Zw25
        obtain ⟨liw25, ciw25_0, ciw25_1, ciw25_2, fiw25_0, fiw25_1, fiw25_2⟩ := Viw25.out.open3
        obtain ⟨ljw25, cjw25_0, cjw25_1, cjw25_2, fjw25_0, fjw25_1, fjw25_2⟩ := Vjw25.out.open3
        have B9 := hbw25
        refine hK.out _ _ ?_ (fun hHeld => ?_)
        · (first | exact VB.step hHeld B9 | exact VB.drew Viw2.out)
        clear hK K
        try simp only [Act.put, List.setIfInBounds_toArray, List.set_cons_zero, List.set_cons_succ]
        refine readyL (rs := [5]) (by kernel_rfl) (by simp) ?_
        refine AllReadyL.cons (o := ?_) ?_ (fun K hK => ?_) AllReadyL.none_
        rotate_left
        · (simp only [List.getElem?_toArray, List.getElem?_cons_succ, List.getElem?_cons_zero]; rfl)
        go_simp
        go_at_call 23
        ((with_reducible refine (atB _ _ _ z 1 v1 _ E1.out (isRow_below HR.out bbw25.out) (by omega) (by omega)).mono ?_))
        rintro e w26 ⟨rfl, hbw26⟩
        clear liw25 ciw25_0 ciw25_1 ciw25_2 fiw25_0 fiw25_1 fiw25_2 ljw25 cjw25_0 cjw25_1 cjw25_2 fjw25_0 fjw25_1 fjw25_2
        have bbw26 := Lib.hid (later bbw25.out hbw26)
        have hzw26 := hbw26.size
        have Viw26 := Lib.hid (Viw25.out.step hbw26)
        have Vjw26 := Lib.hid (Vjw25.out.step hbw26)
        have Iiw26 : Hid _ := Lib.hid (Iiw25.out.step hbw26)
        clear Viw25
        clear Vjw25
        clear Iiw25
        obtain ⟨liw26, ciw26_0, ciw26_1, ciw26_2, fiw26_0, fiw26_1, fiw26_2⟩ := Viw26.out.open3
        obtain ⟨ljw26, cjw26_0, cjw26_1, cjw26_2, fjw26_0, fjw26_1, fjw26_2⟩ := Vjw26.out.open3
        have bjw26 := Lib.hid (later bjw25.out hbw26)
        have B9 := hbw26
        refine hK.out _ _ ?_ (fun hHeld => ?_)
        · (first | exact VB.step hHeld B9 | exact VB.drew Viw2.out)
        clear hK K
        try simp only [Act.put, List.setIfInBounds_toArray, List.set_cons_zero, List.set_cons_succ]
        refine takeL (i := 6) (oi := ?_) (v := ?_) ?_ (by kernel_rfl) (by kernel_rfl) (by kernel_rfl) (by kernel_rfl) ?_ (Or.inl ⟨?_, ?_⟩) (by assumption) ?_
        rotate_left 2
        · (simp only [List.getElem?_toArray, List.getElem?_cons_succ, List.getElem?_cons_zero]; rfl)
        · exact fun _ _ _ h => h
        · rfl
        · (intro w hSw; (try dsimp only at hSw); have S0 := hSw; obtain ⟨l0S, c0S0, c0S1, c0S2, _⟩ := S0.open3; clear S0; go_simp; (try with_reducible rfl))
        try simp only [Act.put, List.setIfInBounds_toArray, List.set_cons_zero, List.set_cons_succ]
        refine readyL (rs := [8]) (by kernel_rfl) (by simp) ?_
        refine AllReadyL.cons (o := ?_) ?_ (fun K hK => ?_) AllReadyL.none_
        rotate_left
        · (simp only [List.getElem?_toArray, List.getElem?_cons_succ, List.getElem?_cons_zero]; rfl)
        go_simp
        go_at_call 23
        ((with_reducible refine (atB _ _ _ z 2 v2 _ E2.out (isRow_below HR.out bbw26.out) (by omega) (by omega)).mono ?_))
        rintro e w27 ⟨rfl, hbw27⟩
        clear liw26 ciw26_0 ciw26_1 ciw26_2 fiw26_0 fiw26_1 fiw26_2 ljw26 cjw26_0 cjw26_1 cjw26_2 fjw26_0 fjw26_1 fjw26_2
        have bbw27 := Lib.hid (later bbw26.out hbw27)
        have hzw27 := hbw27.size
        have Viw27 := Lib.hid (Viw26.out.step hbw27)
        have Vjw27 := Lib.hid (Vjw26.out.step hbw27)
        have Iiw27 : Hid _ := Lib.hid (Iiw26.out.step hbw27)
        clear Viw26
        clear Vjw26
        clear Iiw26
        obtain ⟨liw27, ciw27_0, ciw27_1, ciw27_2, fiw27_0, fiw27_1, fiw27_2⟩ := Viw27.out.open3
        obtain ⟨ljw27, cjw27_0, cjw27_1, cjw27_2, fjw27_0, fjw27_1, fjw27_2⟩ := Vjw27.out.open3
        have bjw27 := Lib.hid (later bjw26.out hbw27)
        have B9 := hbw27
        refine hK.out _ _ ?_ (fun hHeld => ?_)
        · (first | exact VB.step hHeld B9 | exact VB.drew Viw2.out)
        clear hK K
        try simp only [Act.put, List.setIfInBounds_toArray, List.set_cons_zero, List.set_cons_succ]
        refine takeL (i := 9) (oi := ?_) (v := ?_) ?_ (by kernel_rfl) (by kernel_rfl) (by kernel_rfl) (by kernel_rfl) ?_ (Or.inl ⟨?_, ?_⟩) (by assumption) ?_
        rotate_left 2
        · (simp only [List.getElem?_toArray, List.getElem?_cons_succ, List.getElem?_cons_zero]; rfl)
        · exact fun _ _ _ h => h
        · rfl
        · (intro w hSw; (try dsimp only at hSw); have S0 := hSw; obtain ⟨l0S, c0S0, c0S1, c0S2, _⟩ := S0.open3; clear S0; go_simp; (try with_reducible rfl))
        try simp only [Act.put, List.setIfInBounds_toArray, List.set_cons_zero, List.set_cons_succ]
        refine readyL (rs := [11]) (by kernel_rfl) (by simp) ?_
        refine AllReadyL.cons (o := ?_) ?_ (fun K hK => ?_) AllReadyL.none_
        rotate_left
        · (simp only [List.getElem?_toArray, List.getElem?_cons_succ, List.getElem?_cons_zero]; rfl)
        go_simp
        go_at_call 23
        ((with_reducible refine (atB _ _ _ z 3 v3 _ E3.out (isRow_below HR.out bbw27.out) (by omega) (by omega)).mono ?_))
        rintro e w28 ⟨rfl, hbw28⟩
        clear liw27 ciw27_0 ciw27_1 ciw27_2 fiw27_0 fiw27_1 fiw27_2 ljw27 cjw27_0 cjw27_1 cjw27_2 fjw27_0 fjw27_1 fjw27_2
        have bbw28 := Lib.hid (later bbw27.out hbw28)
        have hzw28 := hbw28.size
        have Viw28 := Lib.hid (Viw27.out.step hbw28)
        have Vjw28 := Lib.hid (Vjw27.out.step hbw28)
        have Iiw28 : Hid _ := Lib.hid (Iiw27.out.step hbw28)
        clear Viw27
        clear Vjw27
        clear Iiw27
        obtain ⟨liw28, ciw28_0, ciw28_1, ciw28_2, fiw28_0, fiw28_1, fiw28_2⟩ := Viw28.out.open3
        obtain ⟨ljw28, cjw28_0, cjw28_1, cjw28_2, fjw28_0, fjw28_1, fjw28_2⟩ := Vjw28.out.open3
        have bjw28 := Lib.hid (later bjw27.out hbw28)
        have B9 := hbw28
        refine hK.out _ _ ?_ (fun hHeld => ?_)
        · (first | exact VB.step hHeld B9 | exact VB.drew Viw2.out)
        clear hK K
        try simp only [Act.put, List.setIfInBounds_toArray, List.set_cons_zero, List.set_cons_succ]
        refine takeL (i := 12) (oi := ?_) (v := ?_) ?_ (by kernel_rfl) (by kernel_rfl) (by kernel_rfl) (by kernel_rfl) ?_ (Or.inl ⟨?_, ?_⟩) (by assumption) ?_
        rotate_left 2
        · (simp only [List.getElem?_toArray, List.getElem?_cons_succ, List.getElem?_cons_zero]; rfl)
        · exact fun _ _ _ h => h
        · rfl
        · (intro w hSw; (try dsimp only at hSw); have S0 := hSw; obtain ⟨l0S, c0S0, c0S1, c0S2, _⟩ := S0.open3; clear S0; go_simp; (try with_reducible rfl))
        try simp only [Act.put, List.setIfInBounds_toArray, List.set_cons_zero, List.set_cons_succ]
        refine takeL (i := 13) (oi := ?_) (v := ?_) ?_ (by kernel_rfl) (by kernel_rfl) (by kernel_rfl) (by kernel_rfl) ?_ (Or.inl ⟨?_, ?_⟩) (by assumption) ?_
        rotate_left 2
        · (simp only [List.getElem?_toArray, List.getElem?_cons_succ, List.getElem?_cons_zero]; rfl)
        · exact fun _ _ _ h => h
        · rfl
        · (intro w hSw; (try dsimp only at hSw); have S0 := hSw; obtain ⟨l0S, c0S0, c0S1, c0S2, _⟩ := S0.open3; clear S0; go_simp; (try with_reducible rfl))
        try simp only [Act.put, List.setIfInBounds_toArray, List.set_cons_zero, List.set_cons_succ]
        refine readyL (rs := [15]) (by kernel_rfl) (by simp) ?_
        refine AllReadyL.cons (o := ?_) ?_ (fun K hK => ?_) AllReadyL.none_
        rotate_left
        · (simp only [List.getElem?_toArray, List.getElem?_cons_succ, List.getElem?_cons_zero]; rfl)
        go_simp
        go_at_call 23
        ((with_reducible refine (atB _ _ _ z 4 v4 _ E4.out (isRow_below HR.out bbw28.out) (by omega) (by omega)).mono ?_))
        rintro e w29 ⟨rfl, hbw29⟩
        clear liw28 ciw28_0 ciw28_1 ciw28_2 fiw28_0 fiw28_1 fiw28_2 ljw28 cjw28_0 cjw28_1 cjw28_2 fjw28_0 fjw28_1 fjw28_2
        have bbw29 := Lib.hid (later bbw28.out hbw29)
        have hzw29 := hbw29.size
        have Viw29 := Lib.hid (Viw28.out.step hbw29)
        have Vjw29 := Lib.hid (Vjw28.out.step hbw29)
        have Iiw29 : Hid _ := Lib.hid (Iiw28.out.step hbw29)
        clear Viw28
        clear Vjw28
        clear Iiw28
        obtain ⟨liw29, ciw29_0, ciw29_1, ciw29_2, fiw29_0, fiw29_1, fiw29_2⟩ := Viw29.out.open3
        obtain ⟨ljw29, cjw29_0, cjw29_1, cjw29_2, fjw29_0, fjw29_1, fjw29_2⟩ := Vjw29.out.open3
        have bjw29 := Lib.hid (later bjw28.out hbw29)
        have B9 := hbw29
        refine hK.out _ _ ?_ (fun hHeld => ?_)
        · (first | exact VB.step hHeld B9 | exact VB.drew Viw2.out)
        clear hK K
        try simp only [Act.put, List.setIfInBounds_toArray, List.set_cons_zero, List.set_cons_succ]
        refine takeL (i := 16) (oi := ?_) (v := ?_) ?_ (by kernel_rfl) (by kernel_rfl) (by kernel_rfl) (by kernel_rfl) ?_ (Or.inl ⟨?_, ?_⟩) (by assumption) ?_
        rotate_left 2
        · (simp only [List.getElem?_toArray, List.getElem?_cons_succ, List.getElem?_cons_zero]; rfl)
        · exact fun _ _ _ h => h
        · rfl
        · (intro w hSw; (try dsimp only at hSw); have S0 := hSw; obtain ⟨l0S, c0S0, c0S1, c0S2, _⟩ := S0.open3; clear S0; go_simp; (try with_reducible rfl))
        try simp only [Act.put, List.setIfInBounds_toArray, List.set_cons_zero, List.set_cons_succ]
        refine readyL (rs := [17]) (by kernel_rfl) (by simp) ?_
        refine AllReadyL.cons (o := ?_) ?_ (fun K hK => ?_) AllReadyL.none_
        rotate_left
        · (simp only [List.getElem?_toArray, List.getElem?_cons_succ, List.getElem?_cons_zero]; rfl)
        go_simp
        go_at_call 22
        ((with_reducible refine (specFillV _ _ _ _ _ _ _ _ _ zs ds _ _ _ _ _ _ HF.out Iiw29.out hnz).mono ?_))
        rintro e w30 ⟨Aw30, kw30, rfl, Ow30, hbw30⟩
        have Pw30 := Lib.hid Ow30
        clear Ow30
        clear liw29 ciw29_0 ciw29_1 ciw29_2 fiw29_0 fiw29_1 fiw29_2 ljw29 cjw29_0 cjw29_1 cjw29_2 fjw29_0 fjw29_1 fjw29_2
        have bbw30 := Lib.hid (later bbw29.out hbw30)
        have hzw30 := hbw30.size
        have Viw30 := Lib.hid (Viw29.out.step hbw30)
        have Vjw30 := Lib.hid (Vjw29.out.step hbw30)
        have Iiw30 : Hid _ := Lib.hid (Iiw29.out.step hbw30)
        clear Viw29
        clear Vjw29
        clear Iiw29
        obtain ⟨liw30, ciw30_0, ciw30_1, ciw30_2, fiw30_0, fiw30_1, fiw30_2⟩ := Viw30.out.open3
        obtain ⟨ljw30, cjw30_0, cjw30_1, cjw30_2, fjw30_0, fjw30_1, fjw30_2⟩ := Vjw30.out.open3
        have Ij'w30 := Pw30
        clear Pw30
        have bjw30 := Lib.hid (later bjw29.out hbw30)
        have B9 := hbw30
        refine hK.out _ _ ?_ (fun hHeld => ?_)
        · (first | exact VB.step hHeld B9 | exact VB.drew Viw2.out)
        clear hK K
        try simp only [Act.put, List.setIfInBounds_toArray, List.set_cons_zero, List.set_cons_succ]
        refine readyL (rs := [19]) (by kernel_rfl) (by simp) ?_
        refine AllReadyL.last (o := ?_) ?_ (fun K hK => ?_)
        rotate_left
        · (simp only [List.getElem?_toArray, List.getElem?_cons_succ, List.getElem?_cons_zero]; rfl)
        go_simp
        refine hK.out _ _ ?_
        clear hK K
        try simp only [Act.put, List.setIfInBounds_toArray, List.set_cons_zero, List.set_cons_succ]
        refine doneL (by kernel_rfl) ?_ _
        go_wp2_with fail
        go_meet
        have e1 : w2.heap.size ≤ w29.heap.size := bjw29.out.size
        have e2 : w30.heap.size ≤ w30.heap.size := Ij'w30.out.hi_le
        case rel => exact ⟨w4.heap.size, rfl, Aw30, kw30, w29.heap.size, w30.heap.size, by omega, e1, Nat.le_trans e2 (Nat.le_of_eq (by simp [World.setCell])), by omega, ((Vjw30.out.set 0 _).set 1 _).set 2 _, Ints.setc3 Ij'w30.out (b := w4.heap.size) (by omega) _ _ _, ((bjw30.out.setCell (by show w2.heap.size ≤ w4.heap.size; omega) _).setCell (by show w2.heap.size ≤ w4.heap.size; omega) _).setCell (by show w2.heap.size ≤ w4.heap.size; omega) _⟩
      exact AllReadyL.none_
    refine AllReadyL.cons (o := ?_) ?_ (fun K hK => ?_) ?_
    rotate_left
    · (simp only [List.getElem?_toArray, List.getElem?_cons_succ, List.getElem?_cons_zero]; rfl)
    · go_simp
      have hbw31 : Below (w2.drew).heap.size (w2.drew) (w2.alloc (.cells #[.int .i64 0, .int .i64 0, .slice none 0 0] 30 (0, 0))).drew := by first | exact (Below.refl _ _).alloc (Nat.le_refl _) _ | exact (show Below (w2.drew).heap.size w2.drew (w2.drew.alloc (.cells #[.int .i64 0, .int .i64 0, .slice none 0 0] 30 (0, 0))) from (Below.refl _ _).alloc (Nat.le_refl _) _)
      have haw31 : w2.heap.size ≤ w2.heap.size := Nat.le_refl _
      have hyw31 : (w2.drew).heap.size < (w2.alloc (.cells #[.int .i64 0, .int .i64 0, .slice none 0 0] 30 (0, 0))).drew.heap.size := by simp
      have Zw31 : Hid (VB (w2.alloc (.cells #[.int .i64 0, .int .i64 0, .slice none 0 0] 30 (0, 0))).drew (w2.heap.size) [.int .i64 0, .int .i64 0, .slice none 0 0]) := Lib.hid (by first | exact VB.new (cs := [.int .i64 0, .int .i64 0, .slice none 0 0]) rfl | exact VB.drew (VB.new (cs := [.int .i64 0, .int .i64 0, .slice none 0 0]) rfl))
      generalize (w2.alloc (.cells #[.int .i64 0, .int .i64 0, .slice none 0 0] 30 (0, 0))).drew = w31 at *
      have bbw31 := Lib.hid (later bbw3.out hbw31)
      have hzw31 := hbw31.size
      have Viw31 := Lib.hid (Viw3.out.step hbw31)
      have Iiw31 : Hid _ := Lib.hid (Iiw3.out.step hbw31)
      clear Viw3
      clear Iiw3
      obtain ⟨liw31, ciw31_0, ciw31_1, ciw31_2, fiw31_0, fiw31_1, fiw31_2⟩ := Viw31.out.open3
      have bjw31 := Lib.hid (later bjw3.out hbw31)
      clear liw31 ciw31_0 ciw31_1 ciw31_2 fiw31_0 fiw31_1 fiw31_2
      have Vjw31 := Zw31
      obtain ⟨liw31, ciw31_0, ciw31_1, ciw31_2, fiw31_0, fiw31_1, fiw31_2⟩ := Viw31.out.open3
      obtain ⟨ljw31, cjw31_0, cjw31_1, cjw31_2, fjw31_0, fjw31_1, fjw31_2⟩ := Vjw31.out.open3
      have B9 := hbw31
      refine hK.out _ _ ?_ (fun hHeld => ?_)
      · (first | exact VB.step hHeld B9 | exact VB.drew Viw2.out)
      clear hK K
      try simp only [Act.put, List.setIfInBounds_toArray, List.set_cons_zero, List.set_cons_succ]
      refine readyL (rs := [2]) (by kernel_rfl) (by simp) ?_
      refine AllReadyL.cons (o := ?_) ?_ (fun K hK => ?_) AllReadyL.none_
      rotate_left
      · (simp only [List.getElem?_toArray, List.getElem?_cons_succ, List.getElem?_cons_zero]; rfl)
      go_simp
      go_at_call 23
      ((with_reducible refine (atB _ _ _ z 0 v0 _ E0.out (isRow_below HR.out bbw31.out) (by omega) (by omega)).mono ?_))
      rintro e w32 ⟨rfl, hbw32⟩
      clear liw31 ciw31_0 ciw31_1 ciw31_2 fiw31_0 fiw31_1 fiw31_2 ljw31 cjw31_0 cjw31_1 cjw31_2 fjw31_0 fjw31_1 fjw31_2
      have bbw32 := Lib.hid (later bbw31.out hbw32)
      have hzw32 := hbw32.size
      have Viw32 := Lib.hid (Viw31.out.step hbw32)
      have Vjw32 := Lib.hid (Vjw31.out.step hbw32)
      have Iiw32 : Hid _ := Lib.hid (Iiw31.out.step hbw32)
      clear Viw31
      clear Vjw31
      clear Iiw31
      obtain ⟨liw32, ciw32_0, ciw32_1, ciw32_2, fiw32_0, fiw32_1, fiw32_2⟩ := Viw32.out.open3
      obtain ⟨ljw32, cjw32_0, cjw32_1, cjw32_2, fjw32_0, fjw32_1, fjw32_2⟩ := Vjw32.out.open3
      have bjw32 := Lib.hid (later bjw31.out hbw32)
      have B9 := hbw32
      refine hK.out _ _ ?_ (fun hHeld => ?_)
      · (first | exact VB.step hHeld B9 | exact VB.drew Viw2.out)
      clear hK K
      try simp only [Act.put, List.setIfInBounds_toArray, List.set_cons_zero, List.set_cons_succ]
      refine takeL (i := 3) (oi := ?_) (v := ?_) ?_ (by kernel_rfl) (by kernel_rfl) (by kernel_rfl) (by kernel_rfl) ?_ (Or.inl ⟨?_, ?_⟩) (by assumption) ?_
      rotate_left 2
      · (simp only [List.getElem?_toArray, List.getElem?_cons_succ, List.getElem?_cons_zero]; rfl)
      · exact fun _ _ _ h => h
      · rfl
      · (intro w hSw; (try dsimp only at hSw); have S0 := hSw; obtain ⟨l0S, c0S0, c0S1, c0S2, _⟩ := S0.open3; clear S0; go_simp; (try with_reducible rfl))
      try simp only [Act.put, List.setIfInBounds_toArray, List.set_cons_zero, List.set_cons_succ]
      refine readyL (rs := [5]) (by kernel_rfl) (by simp) ?_
      refine AllReadyL.cons (o := ?_) ?_ (fun K hK => ?_) AllReadyL.none_
      rotate_left
      · (simp only [List.getElem?_toArray, List.getElem?_cons_succ, List.getElem?_cons_zero]; rfl)
      go_simp
      go_at_call 23
      ((with_reducible refine (atB _ _ _ z 1 v1 _ E1.out (isRow_below HR.out bbw32.out) (by omega) (by omega)).mono ?_))
      rintro e w33 ⟨rfl, hbw33⟩
      clear liw32 ciw32_0 ciw32_1 ciw32_2 fiw32_0 fiw32_1 fiw32_2 ljw32 cjw32_0 cjw32_1 cjw32_2 fjw32_0 fjw32_1 fjw32_2
      have bbw33 := Lib.hid (later bbw32.out hbw33)
      have hzw33 := hbw33.size
      have Viw33 := Lib.hid (Viw32.out.step hbw33)
      have Vjw33 := Lib.hid (Vjw32.out.step hbw33)
      have Iiw33 : Hid _ := Lib.hid (Iiw32.out.step hbw33)
      clear Viw32
      clear Vjw32
      clear Iiw32
      obtain ⟨liw33, ciw33_0, ciw33_1, ciw33_2, fiw33_0, fiw33_1, fiw33_2⟩ := Viw33.out.open3
      obtain ⟨ljw33, cjw33_0, cjw33_1, cjw33_2, fjw33_0, fjw33_1, fjw33_2⟩ := Vjw33.out.open3
      have bjw33 := Lib.hid (later bjw32.out hbw33)
      have B9 := hbw33
      refine hK.out _ _ ?_ (fun hHeld => ?_)
      · (first | exact VB.step hHeld B9 | exact VB.drew Viw2.out)
      clear hK K
      try simp only [Act.put, List.setIfInBounds_toArray, List.set_cons_zero, List.set_cons_succ]
      refine takeL (i := 6) (oi := ?_) (v := ?_) ?_ (by kernel_rfl) (by kernel_rfl) (by kernel_rfl) (by kernel_rfl) ?_ (Or.inl ⟨?_, ?_⟩) (by assumption) ?_
      rotate_left 2
      · (simp only [List.getElem?_toArray, List.getElem?_cons_succ, List.getElem?_cons_zero]; rfl)
      · exact fun _ _ _ h => h
      · rfl
      · (intro w hSw; (try dsimp only at hSw); have S0 := hSw; obtain ⟨l0S, c0S0, c0S1, c0S2, _⟩ := S0.open3; clear S0; go_simp; (try with_reducible rfl))
      try simp only [Act.put, List.setIfInBounds_toArray, List.set_cons_zero, List.set_cons_succ]
      refine readyL (rs := [8]) (by kernel_rfl) (by simp) ?_
      refine AllReadyL.cons (o := ?_) ?_ (fun K hK => ?_) AllReadyL.none_
      rotate_left
      · (simp only [List.getElem?_toArray, List.getElem?_cons_succ, List.getElem?_cons_zero]; rfl)
      go_simp
      go_at_call 23
      ((with_reducible refine (atB _ _ _ z 2 v2 _ E2.out (isRow_below HR.out bbw33.out) (by omega) (by omega)).mono ?_))
      rintro e w34 ⟨rfl, hbw34⟩
      clear liw33 ciw33_0 ciw33_1 ciw33_2 fiw33_0 fiw33_1 fiw33_2 ljw33 cjw33_0 cjw33_1 cjw33_2 fjw33_0 fjw33_1 fjw33_2
      have bbw34 := Lib.hid (later bbw33.out hbw34)
      have hzw34 := hbw34.size
      have Viw34 := Lib.hid (Viw33.out.step hbw34)
      have Vjw34 := Lib.hid (Vjw33.out.step hbw34)
      have Iiw34 : Hid _ := Lib.hid (Iiw33.out.step hbw34)
      clear Viw33
      clear Vjw33
      clear Iiw33
      obtain ⟨liw34, ciw34_0, ciw34_1, ciw34_2, fiw34_0, fiw34_1, fiw34_2⟩ := Viw34.out.open3
      obtain ⟨ljw34, cjw34_0, cjw34_1, cjw34_2, fjw34_0, fjw34_1, fjw34_2⟩ := Vjw34.out.open3
      have bjw34 := Lib.hid (later bjw33.out hbw34)
      have B9 := hbw34
      refine hK.out _ _ ?_ (fun hHeld => ?_)
      · (first | exact VB.step hHeld B9 | exact VB.drew Viw2.out)
      clear hK K
      try simp only [Act.put, List.setIfInBounds_toArray, List.set_cons_zero, List.set_cons_succ]
      refine takeL (i := 9) (oi := ?_) (v := ?_) ?_ (by kernel_rfl) (by kernel_rfl) (by kernel_rfl) (by kernel_rfl) ?_ (Or.inl ⟨?_, ?_⟩) (by assumption) ?_
      rotate_left 2
      · (simp only [List.getElem?_toArray, List.getElem?_cons_succ, List.getElem?_cons_zero]; rfl)
      · exact fun _ _ _ h => h
      · rfl
      · (intro w hSw; (try dsimp only at hSw); have S0 := hSw; obtain ⟨l0S, c0S0, c0S1, c0S2, _⟩ := S0.open3; clear S0; go_simp; (try with_reducible rfl))
      try simp only [Act.put, List.setIfInBounds_toArray, List.set_cons_zero, List.set_cons_succ]
      refine readyL (rs := [11]) (by kernel_rfl) (by simp) ?_
      refine AllReadyL.cons (o := ?_) ?_ (fun K hK => ?_) AllReadyL.none_
      rotate_left
      · (simp only [List.getElem?_toArray, List.getElem?_cons_succ, List.getElem?_cons_zero]; rfl)
      go_simp
      go_at_call 23
      ((with_reducible refine (atB _ _ _ z 3 v3 _ E3.out (isRow_below HR.out bbw34.out) (by omega) (by omega)).mono ?_))
      rintro e w35 ⟨rfl, hbw35⟩
      clear liw34 ciw34_0 ciw34_1 ciw34_2 fiw34_0 fiw34_1 fiw34_2 ljw34 cjw34_0 cjw34_1 cjw34_2 fjw34_0 fjw34_1 fjw34_2
      have bbw35 := Lib.hid (later bbw34.out hbw35)
      have hzw35 := hbw35.size
      have Viw35 := Lib.hid (Viw34.out.step hbw35)
      have Vjw35 := Lib.hid (Vjw34.out.step hbw35)
      have Iiw35 : Hid _ := Lib.hid (Iiw34.out.step hbw35)
      clear Viw34
      clear Vjw34
      clear Iiw34
      obtain ⟨liw35, ciw35_0, ciw35_1, ciw35_2, fiw35_0, fiw35_1, fiw35_2⟩ := Viw35.out.open3
      obtain ⟨ljw35, cjw35_0, cjw35_1, cjw35_2, fjw35_0, fjw35_1, fjw35_2⟩ := Vjw35.out.open3
      have bjw35 := Lib.hid (later bjw34.out hbw35)
      have B9 := hbw35
      refine hK.out _ _ ?_ (fun hHeld => ?_)
      · (first | exact VB.step hHeld B9 | exact VB.drew Viw2.out)
      clear hK K
      try simp only [Act.put, List.setIfInBounds_toArray, List.set_cons_zero, List.set_cons_succ]
      refine takeL (i := 12) (oi := ?_) (v := ?_) ?_ (by kernel_rfl) (by kernel_rfl) (by kernel_rfl) (by kernel_rfl) ?_ (Or.inl ⟨?_, ?_⟩) (by assumption) ?_
      rotate_left 2
      · (simp only [List.getElem?_toArray, List.getElem?_cons_succ, List.getElem?_cons_zero]; rfl)
      · exact fun _ _ _ h => h
      · rfl
      · (intro w hSw; (try dsimp only at hSw); have S0 := hSw; obtain ⟨l0S, c0S0, c0S1, c0S2, _⟩ := S0.open3; clear S0; go_simp; (try with_reducible rfl))
      try simp only [Act.put, List.setIfInBounds_toArray, List.set_cons_zero, List.set_cons_succ]
      refine takeL (i := 13) (oi := ?_) (v := ?_) ?_ (by kernel_rfl) (by kernel_rfl) (by kernel_rfl) (by kernel_rfl) ?_ (Or.inl ⟨?_, ?_⟩) (by assumption) ?_
      rotate_left 2
      · (simp only [List.getElem?_toArray, List.getElem?_cons_succ, List.getElem?_cons_zero]; rfl)
      · exact fun _ _ _ h => h
      · rfl
      · (intro w hSw; (try dsimp only at hSw); have S0 := hSw; obtain ⟨l0S, c0S0, c0S1, c0S2, _⟩ := S0.open3; clear S0; go_simp; (try with_reducible rfl))
      try simp only [Act.put, List.setIfInBounds_toArray, List.set_cons_zero, List.set_cons_succ]
      refine readyL (rs := [15]) (by kernel_rfl) (by simp) ?_
      refine AllReadyL.cons (o := ?_) ?_ (fun K hK => ?_) AllReadyL.none_
      rotate_left
      · (simp only [List.getElem?_toArray, List.getElem?_cons_succ, List.getElem?_cons_zero]; rfl)
      go_simp
      go_at_call 23
      ((with_reducible refine (atB _ _ _ z 4 v4 _ E4.out (isRow_below HR.out bbw35.out) (by omega) (by omega)).mono ?_))
      rintro e w36 ⟨rfl, hbw36⟩
      clear liw35 ciw35_0 ciw35_1 ciw35_2 fiw35_0 fiw35_1 fiw35_2 ljw35 cjw35_0 cjw35_1 cjw35_2 fjw35_0 fjw35_1 fjw35_2
      have bbw36 := Lib.hid (later bbw35.out hbw36)
      have hzw36 := hbw36.size
      have Viw36 := Lib.hid (Viw35.out.step hbw36)
      have Vjw36 := Lib.hid (Vjw35.out.step hbw36)
      have Iiw36 : Hid _ := Lib.hid (Iiw35.out.step hbw36)
      clear Viw35
      clear Vjw35
      clear Iiw35
      obtain ⟨liw36, ciw36_0, ciw36_1, ciw36_2, fiw36_0, fiw36_1, fiw36_2⟩ := Viw36.out.open3
      obtain ⟨ljw36, cjw36_0, cjw36_1, cjw36_2, fjw36_0, fjw36_1, fjw36_2⟩ := Vjw36.out.open3
      have bjw36 := Lib.hid (later bjw35.out hbw36)
      have B9 := hbw36
      refine hK.out _ _ ?_ (fun hHeld => ?_)
      · (first | exact VB.step hHeld B9 | exact VB.drew Viw2.out)
      clear hK K
      try simp only [Act.put, List.setIfInBounds_toArray, List.set_cons_zero, List.set_cons_succ]
      refine takeL (i := 16) (oi := ?_) (v := ?_) ?_ (by kernel_rfl) (by kernel_rfl) (by kernel_rfl) (by kernel_rfl) ?_ (Or.inl ⟨?_, ?_⟩) (by assumption) ?_
      rotate_left 2
      · (simp only [List.getElem?_toArray, List.getElem?_cons_succ, List.getElem?_cons_zero]; rfl)
      · exact fun _ _ _ h => h
      · rfl
      · (intro w hSw; (try dsimp only at hSw); have S0 := hSw; obtain ⟨l0S, c0S0, c0S1, c0S2, _⟩ := S0.open3; clear S0; go_simp; (try with_reducible rfl))
      try simp only [Act.put, List.setIfInBounds_toArray, List.set_cons_zero, List.set_cons_succ]
      refine readyL (rs := [17]) (by kernel_rfl) (by simp) ?_
      refine AllReadyL.cons (o := ?_) ?_ (fun K hK => ?_) AllReadyL.none_
      rotate_left
      · (simp only [List.getElem?_toArray, List.getElem?_cons_succ, List.getElem?_cons_zero]; rfl)
      go_simp
      go_at_call 22
      ((with_reducible refine (specFillV _ _ _ _ _ _ _ _ _ zs ds _ _ _ _ _ _ HF.out Iiw36.out hnz).mono ?_))
      rintro e w37 ⟨Aw37, kw37, rfl, Ow37, hbw37⟩
      have Pw37 := Lib.hid Ow37
      clear Ow37
      clear liw36 ciw36_0 ciw36_1 ciw36_2 fiw36_0 fiw36_1 fiw36_2 ljw36 cjw36_0 cjw36_1 cjw36_2 fjw36_0 fjw36_1 fjw36_2
      have bbw37 := Lib.hid (later bbw36.out hbw37)
      have hzw37 := hbw37.size
      have Viw37 := Lib.hid (Viw36.out.step hbw37)
      have Vjw37 := Lib.hid (Vjw36.out.step hbw37)
      have Iiw37 : Hid _ := Lib.hid (Iiw36.out.step hbw37)
      clear Viw36
      clear Vjw36
      clear Iiw36
      obtain ⟨liw37, ciw37_0, ciw37_1, ciw37_2, fiw37_0, fiw37_1, fiw37_2⟩ := Viw37.out.open3
      obtain ⟨ljw37, cjw37_0, cjw37_1, cjw37_2, fjw37_0, fjw37_1, fjw37_2⟩ := Vjw37.out.open3
      have Ij'w37 := Pw37
      clear Pw37
      have bjw37 := Lib.hid (later bjw36.out hbw37)
      have B9 := hbw37
      refine hK.out _ _ ?_ (fun hHeld => ?_)
      · (first | exact VB.step hHeld B9 | exact VB.drew Viw2.out)
      clear hK K
      try simp only [Act.put, List.setIfInBounds_toArray, List.set_cons_zero, List.set_cons_succ]
      refine readyL (rs := [19]) (by kernel_rfl) (by simp) ?_
      refine AllReadyL.last (o := ?_) ?_ (fun K hK => ?_)
      rotate_left
      · (simp only [List.getElem?_toArray, List.getElem?_cons_succ, List.getElem?_cons_zero]; rfl)
      go_simp
      refine hK.out _ _ ?_
      clear hK K
      try simp only [Act.put, List.setIfInBounds_toArray, List.set_cons_zero, List.set_cons_succ]
      refine doneL (by kernel_rfl) ?_ _
      go_wp2_with fail
      go_meet
      have e1 : w2.heap.size ≤ w36.heap.size := bjw36.out.size
      have e2 : w37.heap.size ≤ w37.heap.size := Ij'w37.out.hi_le
      case rel => exact ⟨w2.heap.size, rfl, Aw37, kw37, w36.heap.size, w37.heap.size, by omega, e1, Nat.le_trans e2 (Nat.le_of_eq (by simp [World.setCell])), by omega, ((Vjw37.out.set 0 _).set 1 _).set 2 _, Ints.setc3 Ij'w37.out (b := w2.heap.size) (by omega) _ _ _, ((bjw37.out.setCell (by show w2.heap.size ≤ w2.heap.size; omega) _).setCell (by show w2.heap.size ≤ w2.heap.size; omega) _).setCell (by show w2.heap.size ≤ w2.heap.size; omega) _⟩
    exact AllReadyL.none_
  case rest =>
    obtain ⟨bkw38, rfl, Aw38, kw38, low38, hiw38, p1w38, p2w38, p3w38, p4w38, VVw38, IIw38, hbw38⟩ := hcut
    obtain ⟨w38, rfl⟩ : ∃ w38 : World, w38 = wc := ⟨_, rfl⟩
    clear liw2 ciw2_0 ciw2_1 ciw2_2 fiw2_0 fiw2_1 fiw2_2
    have bbw38 := Lib.hid (later bbw2.out hbw38)
    have hzw38 := hbw38.size
    have Viw38 := Lib.hid (Viw2.out.step hbw38)
    have Iiw38 : Hid _ := Lib.hid (Iiw2.out.step hbw38)
    clear Viw2
    clear Iiw2
    obtain ⟨liw38, ciw38_0, ciw38_1, ciw38_2, fiw38_0, fiw38_1, fiw38_2⟩ := Viw38.out.open3
    clear liw38 ciw38_0 ciw38_1 ciw38_2 fiw38_0 fiw38_1 fiw38_2
    have Vjw38 := Lib.hid VVw38
    have tw38 := Vjw38.out.lt
    have Ijw38 := Lib.hid IIw38
    clear VVw38 IIw38
    obtain ⟨liw38, ciw38_0, ciw38_1, ciw38_2, fiw38_0, fiw38_1, fiw38_2⟩ := Viw38.out.open3
    obtain ⟨ljw38, cjw38_0, cjw38_1, cjw38_2, fjw38_0, fjw38_1, fjw38_2⟩ := Vjw38.out.open3
    clear n0 m0
    clear n1 m1
    clear n2 m2
    clear n3 m3
    clear n4
    go_wp2_with fail
    refine (implDiffV _ _ _ _ _ _ _ _ _ _ _ _ _ _ zs ds dd _ HD.out Iiw38.out Ijw38.out).mono ?_
    rintro e w39 ⟨Aw39, kw39, rfl, Ow39, hbw39⟩
    have Pw39 := Lib.hid Ow39
    clear Ow39
    clear liw38 ciw38_0 ciw38_1 ciw38_2 fiw38_0 fiw38_1 fiw38_2 ljw38 cjw38_0 cjw38_1 cjw38_2 fjw38_0 fjw38_1 fjw38_2
    have bbw39 := Lib.hid (later bbw38.out hbw39)
    have hzw39 := hbw39.size
    have Viw39 := Lib.hid (Viw38.out.step hbw39)
    have Vjw39 := Lib.hid (Vjw38.out.step hbw39)
    have Iiw39 : Hid _ := Lib.hid (Iiw38.out.step hbw39)
    have Ijw39 : Hid _ := Lib.hid (Ijw38.out.step hbw39)
    clear Viw38
    clear Vjw38
    clear Iiw38
    clear Ijw38
    obtain ⟨liw39, ciw39_0, ciw39_1, ciw39_2, fiw39_0, fiw39_1, fiw39_2⟩ := Viw39.out.open3
    obtain ⟨ljw39, cjw39_0, cjw39_1, cjw39_2, fjw39_0, fjw39_1, fjw39_2⟩ := Vjw39.out.open3
    have Idw39 := Pw39
    clear Pw39
    go_wp2_with fail
    clear liw39 ciw39_0 ciw39_1 ciw39_2 fiw39_0 fiw39_1 fiw39_2 ljw39 cjw39_0 cjw39_1 cjw39_2 fjw39_0 fjw39_1 fjw39_2
    have Viw40 := Lib.hid ((Viw39.out).alloc (.cells #[.slice Aw39 dd.length kw39] 28 (0, 0)))
    have Vjw40 := Lib.hid ((Vjw39.out).alloc (.cells #[.slice Aw39 dd.length kw39] 28 (0, 0)))
    have Iiw40 : Hid _ := Lib.hid ((Iiw39.out).alloc (.cells #[.slice Aw39 dd.length kw39] 28 (0, 0)))
    have Ijw40 : Hid _ := Lib.hid ((Ijw39.out).alloc (.cells #[.slice Aw39 dd.length kw39] 28 (0, 0)))
    have Idw40 : Hid _ := Lib.hid ((Idw39.out).alloc (.cells #[.slice Aw39 dd.length kw39] 28 (0, 0)))
    have Vdw40 := Lib.hid (VB.new (w := w39) (b := w39.heap.size) (t := 28) (cs := [.slice Aw39 dd.length kw39]) (by simp))
    have hbw40 : Below w39.heap.size w39 (w39.alloc (.cells #[.slice Aw39 dd.length kw39] 28 (0, 0))) := by go_grown
    have bbw40 : Hid (Below w.heap.size w (w39.alloc (.cells #[.slice Aw39 dd.length kw39] 28 (0, 0)))) := Lib.hid (later bbw39.out hbw40)
    have hzw40 : w39.heap.size + 1 ≤ (w39.alloc (.cells #[.slice Aw39 dd.length kw39] 28 (0, 0))).heap.size := by simp
    generalize (w39.alloc (.cells #[.slice Aw39 dd.length kw39] 28 (0, 0))) = w40 at *
    obtain ⟨liw40, ciw40_0, ciw40_1, ciw40_2, fiw40_0, fiw40_1, fiw40_2⟩ := Viw40.out.open3
    obtain ⟨ljw40, cjw40_0, cjw40_1, cjw40_2, fjw40_0, fjw40_1, fjw40_2⟩ := Vjw40.out.open3
    obtain ⟨ldw40, cdw40_0, fdw40_0⟩ := Vdw40.out.open1
    refine (implCopyV _ _ _ _ _ _ _ _ _ _ _ _ _ _ _ _ _ _ _ zs ds ds dd _ HC.out Iiw40.out Ijw40.out (Recs.arg Idw40.out) rfl hnz (by omega)).mono ?_
    rintro e w41 ⟨Aw41, kw41, rfl, Ow41, hbw41⟩
    have Pw41 := Lib.hid Ow41
    clear Ow41
    clear liw40 ciw40_0 ciw40_1 ciw40_2 fiw40_0 fiw40_1 fiw40_2 ljw40 cjw40_0 cjw40_1 cjw40_2 fjw40_0 fjw40_1 fjw40_2 ldw40 cdw40_0 fdw40_0
    have bbw41 := Lib.hid (later bbw40.out hbw41)
    have hzw41 := hbw41.size
    have Viw41 := Lib.hid (Viw40.out.step hbw41)
    have Vjw41 := Lib.hid (Vjw40.out.step hbw41)
    have Vdw41 := Lib.hid (Vdw40.out.step hbw41)
    have Iiw41 : Hid _ := Lib.hid (Iiw40.out.step hbw41)
    have Ijw41 : Hid _ := Lib.hid (Ijw40.out.step hbw41)
    have Idw41 : Hid _ := Lib.hid (Idw40.out.step hbw41)
    clear Viw40
    clear Vjw40
    clear Vdw40
    clear Iiw40
    clear Ijw40
    clear Idw40
    obtain ⟨liw41, ciw41_0, ciw41_1, ciw41_2, fiw41_0, fiw41_1, fiw41_2⟩ := Viw41.out.open3
    obtain ⟨ljw41, cjw41_0, cjw41_1, cjw41_2, fjw41_0, fjw41_1, fjw41_2⟩ := Vjw41.out.open3
    obtain ⟨ldw41, cdw41_0, fdw41_0⟩ := Vdw41.out.open1
    have Ixw41 := Pw41
    clear Pw41
    go_wp2_with fail
    clear liw41 ciw41_0 ciw41_1 ciw41_2 fiw41_0 fiw41_1 fiw41_2 ljw41 cjw41_0 cjw41_1 cjw41_2 fjw41_0 fjw41_1 fjw41_2 ldw41 cdw41_0 fdw41_0
    have Viw42 := Lib.hid ((Viw41.out).alloc (.cells #[.int .i64 X, .int .i64 Y, .slice Aw41 ds.length kw41] 30 (0, 0)))
    have Vjw42 := Lib.hid ((Vjw41.out).alloc (.cells #[.int .i64 X, .int .i64 Y, .slice Aw41 ds.length kw41] 30 (0, 0)))
    have Vdw42 := Lib.hid ((Vdw41.out).alloc (.cells #[.int .i64 X, .int .i64 Y, .slice Aw41 ds.length kw41] 30 (0, 0)))
    have Iiw42 : Hid _ := Lib.hid ((Iiw41.out).alloc (.cells #[.int .i64 X, .int .i64 Y, .slice Aw41 ds.length kw41] 30 (0, 0)))
    have Ijw42 : Hid _ := Lib.hid ((Ijw41.out).alloc (.cells #[.int .i64 X, .int .i64 Y, .slice Aw41 ds.length kw41] 30 (0, 0)))
    have Idw42 : Hid _ := Lib.hid ((Idw41.out).alloc (.cells #[.int .i64 X, .int .i64 Y, .slice Aw41 ds.length kw41] 30 (0, 0)))
    have Ixw42 : Hid _ := Lib.hid ((Ixw41.out).alloc (.cells #[.int .i64 X, .int .i64 Y, .slice Aw41 ds.length kw41] 30 (0, 0)))
    have Vxw42 := Lib.hid (VB.new (w := w41) (b := w41.heap.size) (t := 30) (cs := [.int .i64 X,.int .i64 Y,.slice Aw41 ds.length kw41]) (by simp))
    have hbw42 : Below w41.heap.size w41 (w41.alloc (.cells #[.int .i64 X, .int .i64 Y, .slice Aw41 ds.length kw41] 30 (0, 0))) := by go_grown
    have bbw42 : Hid (Below w.heap.size w (w41.alloc (.cells #[.int .i64 X, .int .i64 Y, .slice Aw41 ds.length kw41] 30 (0, 0)))) := Lib.hid (later bbw41.out hbw42)
    have hzw42 : w41.heap.size + 1 ≤ (w41.alloc (.cells #[.int .i64 X, .int .i64 Y, .slice Aw41 ds.length kw41] 30 (0, 0))).heap.size := by simp
    generalize (w41.alloc (.cells #[.int .i64 X, .int .i64 Y, .slice Aw41 ds.length kw41] 30 (0, 0))) = w42 at *
    obtain ⟨liw42, ciw42_0, ciw42_1, ciw42_2, fiw42_0, fiw42_1, fiw42_2⟩ := Viw42.out.open3
    obtain ⟨ljw42, cjw42_0, cjw42_1, cjw42_2, fjw42_0, fjw42_1, fjw42_2⟩ := Vjw42.out.open3
    obtain ⟨ldw42, cdw42_0, fdw42_0⟩ := Vdw42.out.open1
    obtain ⟨lxw42, cxw42_0, cxw42_1, cxw42_2, fxw42_0, fxw42_1, fxw42_2⟩ := Vxw42.out.open3
    refine (implCropV _ _ _ _ _ _ _ _ _ ds ds _ _ _ _ _ HCR.out Ijw42.out).mono ?_
    rintro e w43 ⟨Aw43, kw43, rfl, Ow43, hbw43⟩
    have Pw43 := Lib.hid Ow43
    clear Ow43
    clear liw42 ciw42_0 ciw42_1 ciw42_2 fiw42_0 fiw42_1 fiw42_2 ljw42 cjw42_0 cjw42_1 cjw42_2 fjw42_0 fjw42_1 fjw42_2 ldw42 cdw42_0 fdw42_0 lxw42 cxw42_0 cxw42_1 cxw42_2 fxw42_0 fxw42_1 fxw42_2
    have bbw43 := Lib.hid (later bbw42.out hbw43)
    have hzw43 := hbw43.size
    have Viw43 := Lib.hid (Viw42.out.step hbw43)
    have Vjw43 := Lib.hid (Vjw42.out.step hbw43)
    have Vdw43 := Lib.hid (Vdw42.out.step hbw43)
    have Vxw43 := Lib.hid (Vxw42.out.step hbw43)
    have Iiw43 : Hid _ := Lib.hid (Iiw42.out.step hbw43)
    have Ijw43 : Hid _ := Lib.hid (Ijw42.out.step hbw43)
    have Idw43 : Hid _ := Lib.hid (Idw42.out.step hbw43)
    have Ixw43 : Hid _ := Lib.hid (Ixw42.out.step hbw43)
    clear Viw42
    clear Vjw42
    clear Vdw42
    clear Vxw42
    clear Iiw42
    clear Ijw42
    clear Idw42
    clear Ixw42
    obtain ⟨liw43, ciw43_0, ciw43_1, ciw43_2, fiw43_0, fiw43_1, fiw43_2⟩ := Viw43.out.open3
    obtain ⟨ljw43, cjw43_0, cjw43_1, cjw43_2, fjw43_0, fjw43_1, fjw43_2⟩ := Vjw43.out.open3
    obtain ⟨ldw43, cdw43_0, fdw43_0⟩ := Vdw43.out.open1
    obtain ⟨lxw43, cxw43_0, cxw43_1, cxw43_2, fxw43_0, fxw43_1, fxw43_2⟩ := Vxw43.out.open3
    have Icw43 := Pw43
    clear Pw43
    go_wp2_with fail
    clear liw43 ciw43_0 ciw43_1 ciw43_2 fiw43_0 fiw43_1 fiw43_2 ljw43 cjw43_0 cjw43_1 cjw43_2 fjw43_0 fjw43_1 fjw43_2 ldw43 cdw43_0 fdw43_0 lxw43 cxw43_0 cxw43_1 cxw43_2 fxw43_0 fxw43_1 fxw43_2
    have Viw44 := Lib.hid ((Viw43.out).alloc (.cells #[.int .i64 X, .int .i64 Y, .slice Aw43 ds.length kw43] 30 (0, 0)))
    have Vjw44 := Lib.hid ((Vjw43.out).alloc (.cells #[.int .i64 X, .int .i64 Y, .slice Aw43 ds.length kw43] 30 (0, 0)))
    have Vdw44 := Lib.hid ((Vdw43.out).alloc (.cells #[.int .i64 X, .int .i64 Y, .slice Aw43 ds.length kw43] 30 (0, 0)))
    have Vxw44 := Lib.hid ((Vxw43.out).alloc (.cells #[.int .i64 X, .int .i64 Y, .slice Aw43 ds.length kw43] 30 (0, 0)))
    have Iiw44 : Hid _ := Lib.hid ((Iiw43.out).alloc (.cells #[.int .i64 X, .int .i64 Y, .slice Aw43 ds.length kw43] 30 (0, 0)))
    have Ijw44 : Hid _ := Lib.hid ((Ijw43.out).alloc (.cells #[.int .i64 X, .int .i64 Y, .slice Aw43 ds.length kw43] 30 (0, 0)))
    have Idw44 : Hid _ := Lib.hid ((Idw43.out).alloc (.cells #[.int .i64 X, .int .i64 Y, .slice Aw43 ds.length kw43] 30 (0, 0)))
    have Ixw44 : Hid _ := Lib.hid ((Ixw43.out).alloc (.cells #[.int .i64 X, .int .i64 Y, .slice Aw43 ds.length kw43] 30 (0, 0)))
    have Icw44 : Hid _ := Lib.hid ((Icw43.out).alloc (.cells #[.int .i64 X, .int .i64 Y, .slice Aw43 ds.length kw43] 30 (0, 0)))
    have Vcw44 := Lib.hid (VB.new (w := w43) (b := w43.heap.size) (t := 30) (cs := [.int .i64 X,.int .i64 Y,.slice Aw43 ds.length kw43]) (by simp))
    have hbw44 : Below w43.heap.size w43 (w43.alloc (.cells #[.int .i64 X, .int .i64 Y, .slice Aw43 ds.length kw43] 30 (0, 0))) := by go_grown
    have bbw44 : Hid (Below w.heap.size w (w43.alloc (.cells #[.int .i64 X, .int .i64 Y, .slice Aw43 ds.length kw43] 30 (0, 0)))) := Lib.hid (later bbw43.out hbw44)
    have hzw44 : w43.heap.size + 1 ≤ (w43.alloc (.cells #[.int .i64 X, .int .i64 Y, .slice Aw43 ds.length kw43] 30 (0, 0))).heap.size := by simp
    generalize (w43.alloc (.cells #[.int .i64 X, .int .i64 Y, .slice Aw43 ds.length kw43] 30 (0, 0))) = w44 at *
    obtain ⟨liw44, ciw44_0, ciw44_1, ciw44_2, fiw44_0, fiw44_1, fiw44_2⟩ := Viw44.out.open3
    obtain ⟨ljw44, cjw44_0, cjw44_1, cjw44_2, fjw44_0, fjw44_1, fjw44_2⟩ := Vjw44.out.open3
    obtain ⟨ldw44, cdw44_0, fdw44_0⟩ := Vdw44.out.open1
    obtain ⟨lxw44, cxw44_0, cxw44_1, cxw44_2, fxw44_0, fxw44_1, fxw44_2⟩ := Vxw44.out.open3
    obtain ⟨lcw44, ccw44_0, ccw44_1, ccw44_2, fcw44_0, fcw44_1, fcw44_2⟩ := Vcw44.out.open3
    have hPi := HPI.out
    have nP : IntKind.i64.wrap (P : Int) = (P : Int) := IntWalk.i64_in _ ⟨by omega, by omega⟩
    obtain ⟨b, hb0⟩ : ∃ b, decide (zs = ds) = b := ⟨_, rfl⟩
    have ar3 := HAR.out
    rw [hb0] at ar3
    have HB0 := Lib.hid hb0
    clear hb0
    clear liw44 ciw44_0 ciw44_1 ciw44_2 fiw44_0 fiw44_1 fiw44_2 ljw44 cjw44_0 cjw44_1 cjw44_2 fjw44_0 fjw44_1 fjw44_2 ldw44 cdw44_0 fdw44_0 lxw44 cxw44_0 cxw44_1 cxw44_2 fxw44_0 fxw44_1 fxw44_2 lcw44 ccw44_0 ccw44_1 ccw44_2 fcw44_0 fcw44_1 fcw44_2
    have bbw45 : Hid (Below w.heap.size w w44.drew) := Lib.hid (Below.drew bbw44.out)
    have hzw45 : w44.heap.size ≤ w44.drew.heap.size := Nat.le_refl _
    have Viw45 := Lib.hid (VB.drew Viw44.out)
    have Vjw45 := Lib.hid (VB.drew Vjw44.out)
    have Vdw45 := Lib.hid (VB.drew Vdw44.out)
    have Vxw45 := Lib.hid (VB.drew Vxw44.out)
    have Vcw45 := Lib.hid (VB.drew Vcw44.out)
    have Iiw45 : Hid _ := Lib.hid (show Ints w44.drew _ _ _ _ from Iiw44.out)
    have Ijw45 : Hid _ := Lib.hid (show Ints w44.drew _ _ _ _ from Ijw44.out)
    have Idw45 : Hid _ := Lib.hid (show Recs w44.drew _ _ _ _ from Idw44.out)
    have Ixw45 : Hid _ := Lib.hid (show Ints w44.drew _ _ _ _ from Ixw44.out)
    have Icw45 : Hid _ := Lib.hid (show Ints w44.drew _ _ _ _ from Icw44.out)
    refine regionL (S := (fun w' => VB w' (w1.heap.size) [.int .i64 X, .int .i64 Y, .slice Ai zs.length ci] ∧ VB w' (bkw38) [.int .i64 X, .int .i64 Y, .slice Aw38 ds.length kw38] ∧ VB w' (w39.heap.size) [.slice Aw39 dd.length kw39] ∧ VB w' (w41.heap.size) [.int .i64 X, .int .i64 Y, .slice Aw41 ds.length kw41] ∧ VB w' (w43.heap.size) [.int .i64 X, .int .i64 Y, .slice Aw43 ds.length kw43])) (L := 36) (by kernel_rfl) ?_ (fun hHeld => ?_)
    · (first | exact ⟨VB.step (hHeld.1) B9, VB.step (hHeld.2.1) B9, VB.step (hHeld.2.2.1) B9, VB.step (hHeld.2.2.2.1) B9, VB.step (hHeld.2.2.2.2) B9⟩ | exact ⟨VB.alloc (hHeld.1) _, VB.alloc (hHeld.2.1) _, VB.alloc (hHeld.2.2.1) _, VB.alloc (hHeld.2.2.2.1) _, VB.alloc (hHeld.2.2.2.2) _⟩ | exact ⟨VB.drew (VB.alloc (show VB w44 _ _ from hHeld.1) _), VB.drew (VB.alloc (show VB w44 _ _ from hHeld.2.1) _), VB.drew (VB.alloc (show VB w44 _ _ from hHeld.2.2.1) _), VB.drew (VB.alloc (show VB w44 _ _ from hHeld.2.2.2.1) _), VB.drew (VB.alloc (show VB w44 _ _ from hHeld.2.2.2.2) _)⟩ | exact ⟨VB.drew Viw44.out, VB.drew Vjw44.out, VB.drew Vdw44.out, VB.drew Vxw44.out, VB.drew Vcw44.out⟩)
    refine takeL (i := 0) (oi := ?_) (v := ?_) ?_ (by kernel_rfl) (by kernel_rfl) (by kernel_rfl) (by kernel_rfl) ?_ (Or.inl ⟨?_, ?_⟩) (by assumption) ?_
    rotate_left 2
    · (simp only [List.getElem?_toArray, List.getElem?_cons_succ, List.getElem?_cons_zero]; rfl)
    · exact fun _ _ _ h => h
    · rfl
    · (intro w hSw; (try dsimp only at hSw); obtain ⟨S0, S1, S2, S3, S4⟩ := hSw; obtain ⟨l0S, c0S0, c0S1, c0S2, _⟩ := S0.open3; obtain ⟨l1S, c1S0, c1S1, c1S2, _⟩ := S1.open3; obtain ⟨l2S, c2S0, _⟩ := S2.open1; obtain ⟨l3S, c3S0, c3S1, c3S2, _⟩ := S3.open3; obtain ⟨l4S, c4S0, c4S1, c4S2, _⟩ := S4.open3; clear S0 S1 S2 S3 S4; go_simp; (try with_reducible rfl))
    try simp only [Act.put, List.setIfInBounds_toArray, List.set_cons_zero, List.set_cons_succ]
    refine takeL (i := 1) (oi := ?_) (v := ?_) ?_ (by kernel_rfl) (by kernel_rfl) (by kernel_rfl) (by kernel_rfl) ?_ (Or.inl ⟨?_, ?_⟩) (by assumption) ?_
    rotate_left 2
    · (simp only [List.getElem?_toArray, List.getElem?_cons_succ, List.getElem?_cons_zero]; rfl)
    · exact fun _ _ _ h => h
    · rfl
    · (intro w hSw; (try dsimp only at hSw); obtain ⟨S0, S1, S2, S3, S4⟩ := hSw; obtain ⟨l0S, c0S0, c0S1, c0S2, _⟩ := S0.open3; obtain ⟨l1S, c1S0, c1S1, c1S2, _⟩ := S1.open3; obtain ⟨l2S, c2S0, _⟩ := S2.open1; obtain ⟨l3S, c3S0, c3S1, c3S2, _⟩ := S3.open3; obtain ⟨l4S, c4S0, c4S1, c4S2, _⟩ := S4.open3; clear S0 S1 S2 S3 S4; go_simp; (try with_reducible rfl))
    try simp only [Act.put, List.setIfInBounds_toArray, List.set_cons_zero, List.set_cons_succ]
    refine readyL (rs := [2]) (by kernel_rfl) (by simp) ?_
    refine AllReadyL.cons (o := ?_) ?_ (fun K hK => ?_) AllReadyL.none_
    rotate_left
    · (simp only [List.getElem?_toArray, List.getElem?_cons_succ, List.getElem?_cons_zero]; rfl)
    go_simp
    go_at_call 25
    ((with_reducible refine (implSameV _ _ _ _ _ _ _ _ _ _ _ _ ds _ Ixw45.out Ijw45.out).mono ?_))
    rintro e w46 ⟨rfl, hbw46⟩
    have bbw46 := Lib.hid (later bbw45.out hbw46)
    have hzw46 := hbw46.size
    have Viw46 := Lib.hid (Viw45.out.step hbw46)
    have Vjw46 := Lib.hid (Vjw45.out.step hbw46)
    have Vdw46 := Lib.hid (Vdw45.out.step hbw46)
    have Vxw46 := Lib.hid (Vxw45.out.step hbw46)
    have Vcw46 := Lib.hid (Vcw45.out.step hbw46)
    have Iiw46 : Hid _ := Lib.hid (Iiw45.out.step hbw46)
    have Ijw46 : Hid _ := Lib.hid (Ijw45.out.step hbw46)
    have Idw46 : Hid _ := Lib.hid (Idw45.out.step hbw46)
    have Ixw46 : Hid _ := Lib.hid (Ixw45.out.step hbw46)
    have Icw46 : Hid _ := Lib.hid (Icw45.out.step hbw46)
    clear Viw45
    clear Vjw45
    clear Vdw45
    clear Vxw45
    clear Vcw45
    clear Iiw45
    clear Ijw45
    clear Idw45
    clear Ixw45
    clear Icw45
    obtain ⟨liw46, ciw46_0, ciw46_1, ciw46_2, fiw46_0, fiw46_1, fiw46_2⟩ := Viw46.out.open3
    obtain ⟨ljw46, cjw46_0, cjw46_1, cjw46_2, fjw46_0, fjw46_1, fjw46_2⟩ := Vjw46.out.open3
    obtain ⟨ldw46, cdw46_0, fdw46_0⟩ := Vdw46.out.open1
    obtain ⟨lxw46, cxw46_0, cxw46_1, cxw46_2, fxw46_0, fxw46_1, fxw46_2⟩ := Vxw46.out.open3
    obtain ⟨lcw46, ccw46_0, ccw46_1, ccw46_2, fcw46_0, fcw46_1, fcw46_2⟩ := Vcw46.out.open3
    have B9 := hbw46
    refine hK.out _ _ ?_ (fun hHeld => ?_)
    · (first | exact ⟨VB.step (hHeld.1) B9, VB.step (hHeld.2.1) B9, VB.step (hHeld.2.2.1) B9, VB.step (hHeld.2.2.2.1) B9, VB.step (hHeld.2.2.2.2) B9⟩ | exact ⟨VB.alloc (hHeld.1) _, VB.alloc (hHeld.2.1) _, VB.alloc (hHeld.2.2.1) _, VB.alloc (hHeld.2.2.2.1) _, VB.alloc (hHeld.2.2.2.2) _⟩ | exact ⟨VB.drew (VB.alloc (show VB w44 _ _ from hHeld.1) _), VB.drew (VB.alloc (show VB w44 _ _ from hHeld.2.1) _), VB.drew (VB.alloc (show VB w44 _ _ from hHeld.2.2.1) _), VB.drew (VB.alloc (show VB w44 _ _ from hHeld.2.2.2.1) _), VB.drew (VB.alloc (show VB w44 _ _ from hHeld.2.2.2.2) _)⟩ | exact ⟨VB.drew Viw44.out, VB.drew Vjw44.out, VB.drew Vdw44.out, VB.drew Vxw44.out, VB.drew Vcw44.out⟩)
    clear hK K
    try simp only [Act.put, List.setIfInBounds_toArray, List.set_cons_zero, List.set_cons_succ]
    refine takeL (i := 3) (oi := ?_) (v := ?_) ?_ (by kernel_rfl) (by kernel_rfl) (by kernel_rfl) (by kernel_rfl) ?_ (Or.inl ⟨?_, ?_⟩) (by assumption) ?_
    rotate_left 2
    · (simp only [List.getElem?_toArray, List.getElem?_cons_succ, List.getElem?_cons_zero]; rfl)
    · exact fun _ _ _ h => h
    · rfl
    · (intro w hSw; (try dsimp only at hSw); obtain ⟨S0, S1, S2, S3, S4⟩ := hSw; obtain ⟨l0S, c0S0, c0S1, c0S2, _⟩ := S0.open3; obtain ⟨l1S, c1S0, c1S1, c1S2, _⟩ := S1.open3; obtain ⟨l2S, c2S0, _⟩ := S2.open1; obtain ⟨l3S, c3S0, c3S1, c3S2, _⟩ := S3.open3; obtain ⟨l4S, c4S0, c4S1, c4S2, _⟩ := S4.open3; clear S0 S1 S2 S3 S4; go_simp; (try with_reducible rfl))
    try simp only [Act.put, List.setIfInBounds_toArray, List.set_cons_zero, List.set_cons_succ]
    refine takeL (i := 4) (oi := ?_) (v := ?_) ?_ (by kernel_rfl) (by kernel_rfl) (by kernel_rfl) (by kernel_rfl) ?_ (Or.inl ⟨?_, ?_⟩) (by assumption) ?_
    rotate_left 2
    · (simp only [List.getElem?_toArray, List.getElem?_cons_succ, List.getElem?_cons_zero]; rfl)
    · exact fun _ _ _ h => h
    · rfl
    · (intro w hSw; (try dsimp only at hSw); obtain ⟨S0, S1, S2, S3, S4⟩ := hSw; obtain ⟨l0S, c0S0, c0S1, c0S2, _⟩ := S0.open3; obtain ⟨l1S, c1S0, c1S1, c1S2, _⟩ := S1.open3; obtain ⟨l2S, c2S0, _⟩ := S2.open1; obtain ⟨l3S, c3S0, c3S1, c3S2, _⟩ := S3.open3; obtain ⟨l4S, c4S0, c4S1, c4S2, _⟩ := S4.open3; clear S0 S1 S2 S3 S4; go_simp; (try with_reducible rfl))
    try simp only [Act.put, List.setIfInBounds_toArray, List.set_cons_zero, List.set_cons_succ]
    refine takeL (i := 5) (oi := ?_) (v := ?_) ?_ (by kernel_rfl) (by kernel_rfl) (by kernel_rfl) (by kernel_rfl) ?_ (Or.inl ⟨?_, ?_⟩) (by assumption) ?_
    rotate_left 2
    · (simp only [List.getElem?_toArray, List.getElem?_cons_succ, List.getElem?_cons_zero]; rfl)
    · exact fun _ _ _ h => h
    · rfl
    · (intro w hSw; (try dsimp only at hSw); obtain ⟨S0, S1, S2, S3, S4⟩ := hSw; obtain ⟨l0S, c0S0, c0S1, c0S2, _⟩ := S0.open3; obtain ⟨l1S, c1S0, c1S1, c1S2, _⟩ := S1.open3; obtain ⟨l2S, c2S0, _⟩ := S2.open1; obtain ⟨l3S, c3S0, c3S1, c3S2, _⟩ := S3.open3; obtain ⟨l4S, c4S0, c4S1, c4S2, _⟩ := S4.open3; clear S0 S1 S2 S3 S4; go_simp; (try with_reducible rfl))
    try simp only [Act.put, List.setIfInBounds_toArray, List.set_cons_zero, List.set_cons_succ]
    refine readyL (rs := [6]) (by kernel_rfl) (by simp) ?_
    refine AllReadyL.cons (o := ?_) ?_ (fun K hK => ?_) AllReadyL.none_
    rotate_left
    · (simp only [List.getElem?_toArray, List.getElem?_cons_succ, List.getElem?_cons_zero]; rfl)
    go_simp
    go_at_call 26
    ((with_reducible refine (sameImage_same _ _ _ _ _ _ _ _ _ _ _ _ ds _ Ixw46.out Ijw46.out).mono ?_))
    rintro e w47 ⟨rfl, hbw47⟩
    clear liw46 ciw46_0 ciw46_1 ciw46_2 fiw46_0 fiw46_1 fiw46_2 ljw46 cjw46_0 cjw46_1 cjw46_2 fjw46_0 fjw46_1 fjw46_2 ldw46 cdw46_0 fdw46_0 lxw46 cxw46_0 cxw46_1 cxw46_2 fxw46_0 fxw46_1 fxw46_2 lcw46 ccw46_0 ccw46_1 ccw46_2 fcw46_0 fcw46_1 fcw46_2
    have bbw47 := Lib.hid (later bbw46.out hbw47)
    have hzw47 := hbw47.size
    have Viw47 := Lib.hid (Viw46.out.step hbw47)
    have Vjw47 := Lib.hid (Vjw46.out.step hbw47)
    have Vdw47 := Lib.hid (Vdw46.out.step hbw47)
    have Vxw47 := Lib.hid (Vxw46.out.step hbw47)
    have Vcw47 := Lib.hid (Vcw46.out.step hbw47)
    have Iiw47 : Hid _ := Lib.hid (Iiw46.out.step hbw47)
    have Ijw47 : Hid _ := Lib.hid (Ijw46.out.step hbw47)
    have Idw47 : Hid _ := Lib.hid (Idw46.out.step hbw47)
    have Ixw47 : Hid _ := Lib.hid (Ixw46.out.step hbw47)
    have Icw47 : Hid _ := Lib.hid (Icw46.out.step hbw47)
    clear Viw46
    clear Vjw46
    clear Vdw46
    clear Vxw46
    clear Vcw46
    clear Iiw46
    clear Ijw46
    clear Idw46
    clear Ixw46
    clear Icw46
    obtain ⟨liw47, ciw47_0, ciw47_1, ciw47_2, fiw47_0, fiw47_1, fiw47_2⟩ := Viw47.out.open3
    obtain ⟨ljw47, cjw47_0, cjw47_1, cjw47_2, fjw47_0, fjw47_1, fjw47_2⟩ := Vjw47.out.open3
    obtain ⟨ldw47, cdw47_0, fdw47_0⟩ := Vdw47.out.open1
    obtain ⟨lxw47, cxw47_0, cxw47_1, cxw47_2, fxw47_0, fxw47_1, fxw47_2⟩ := Vxw47.out.open3
    obtain ⟨lcw47, ccw47_0, ccw47_1, ccw47_2, fcw47_0, fcw47_1, fcw47_2⟩ := Vcw47.out.open3
    have B9 := hbw47
    refine hK.out _ _ ?_ (fun hHeld => ?_)
    · (first | exact ⟨VB.step (hHeld.1) B9, VB.step (hHeld.2.1) B9, VB.step (hHeld.2.2.1) B9, VB.step (hHeld.2.2.2.1) B9, VB.step (hHeld.2.2.2.2) B9⟩ | exact ⟨VB.alloc (hHeld.1) _, VB.alloc (hHeld.2.1) _, VB.alloc (hHeld.2.2.1) _, VB.alloc (hHeld.2.2.2.1) _, VB.alloc (hHeld.2.2.2.2) _⟩ | exact ⟨VB.drew (VB.alloc (show VB w44 _ _ from hHeld.1) _), VB.drew (VB.alloc (show VB w44 _ _ from hHeld.2.1) _), VB.drew (VB.alloc (show VB w44 _ _ from hHeld.2.2.1) _), VB.drew (VB.alloc (show VB w44 _ _ from hHeld.2.2.2.1) _), VB.drew (VB.alloc (show VB w44 _ _ from hHeld.2.2.2.2) _)⟩ | exact ⟨VB.drew Viw44.out, VB.drew Vjw44.out, VB.drew Vdw44.out, VB.drew Vxw44.out, VB.drew Vcw44.out⟩)
    clear hK K
    try simp only [Act.put, List.setIfInBounds_toArray, List.set_cons_zero, List.set_cons_succ]
    refine takeL (i := 7) (oi := ?_) (v := ?_) ?_ (by kernel_rfl) (by kernel_rfl) (by kernel_rfl) (by kernel_rfl) ?_ (Or.inl ⟨?_, ?_⟩) (by assumption) ?_
    rotate_left 2
    · (simp only [List.getElem?_toArray, List.getElem?_cons_succ, List.getElem?_cons_zero]; rfl)
    · exact fun _ _ _ h => h
    · rfl
    · (intro w hSw; (try dsimp only at hSw); obtain ⟨S0, S1, S2, S3, S4⟩ := hSw; obtain ⟨l0S, c0S0, c0S1, c0S2, _⟩ := S0.open3; obtain ⟨l1S, c1S0, c1S1, c1S2, _⟩ := S1.open3; obtain ⟨l2S, c2S0, _⟩ := S2.open1; obtain ⟨l3S, c3S0, c3S1, c3S2, _⟩ := S3.open3; obtain ⟨l4S, c4S0, c4S1, c4S2, _⟩ := S4.open3; clear S0 S1 S2 S3 S4; go_simp; (try with_reducible rfl))
    try simp only [Act.put, List.setIfInBounds_toArray, List.set_cons_zero, List.set_cons_succ]
    refine takeL (i := 8) (oi := ?_) (v := ?_) ?_ (by kernel_rfl) (by kernel_rfl) (by kernel_rfl) (by kernel_rfl) ?_ (Or.inl ⟨?_, ?_⟩) (by assumption) ?_
    rotate_left 2
    · (simp only [List.getElem?_toArray, List.getElem?_cons_succ, List.getElem?_cons_zero]; rfl)
    · exact fun _ _ _ h => h
    · rfl
    · (intro w hSw; (try dsimp only at hSw); obtain ⟨S0, S1, S2, S3, S4⟩ := hSw; obtain ⟨l0S, c0S0, c0S1, c0S2, _⟩ := S0.open3; obtain ⟨l1S, c1S0, c1S1, c1S2, _⟩ := S1.open3; obtain ⟨l2S, c2S0, _⟩ := S2.open1; obtain ⟨l3S, c3S0, c3S1, c3S2, _⟩ := S3.open3; obtain ⟨l4S, c4S0, c4S1, c4S2, _⟩ := S4.open3; clear S0 S1 S2 S3 S4; go_simp; (try with_reducible rfl))
    try simp only [Act.put, List.setIfInBounds_toArray, List.set_cons_zero, List.set_cons_succ]
    refine takeL (i := 9) (oi := ?_) (v := ?_) ?_ (by kernel_rfl) (by kernel_rfl) (by kernel_rfl) (by kernel_rfl) ?_ (Or.inl ⟨?_, ?_⟩) (by assumption) ?_
    rotate_left 2
    · (simp only [List.getElem?_toArray, List.getElem?_cons_succ, List.getElem?_cons_zero]; rfl)
    · exact fun _ _ _ h => h
    · rfl
    · (intro w hSw; (try dsimp only at hSw); obtain ⟨S0, S1, S2, S3, S4⟩ := hSw; obtain ⟨l0S, c0S0, c0S1, c0S2, _⟩ := S0.open3; obtain ⟨l1S, c1S0, c1S1, c1S2, _⟩ := S1.open3; obtain ⟨l2S, c2S0, _⟩ := S2.open1; obtain ⟨l3S, c3S0, c3S1, c3S2, _⟩ := S3.open3; obtain ⟨l4S, c4S0, c4S1, c4S2, _⟩ := S4.open3; clear S0 S1 S2 S3 S4; go_simp; (try with_reducible rfl))
    try simp only [Act.put, List.setIfInBounds_toArray, List.set_cons_zero, List.set_cons_succ]
    refine takeL (i := 10) (oi := ?_) (v := ?_) ?_ (by kernel_rfl) (by kernel_rfl) (by kernel_rfl) (by kernel_rfl) ?_ (Or.inl ⟨?_, ?_⟩) (by assumption) ?_
    rotate_left 2
    · (simp only [List.getElem?_toArray, List.getElem?_cons_succ, List.getElem?_cons_zero]; rfl)
    · exact fun _ _ _ h => h
    · rfl
    · (intro w hSw; (try dsimp only at hSw); obtain ⟨S0, S1, S2, S3, S4⟩ := hSw; obtain ⟨l0S, c0S0, c0S1, c0S2, _⟩ := S0.open3; obtain ⟨l1S, c1S0, c1S1, c1S2, _⟩ := S1.open3; obtain ⟨l2S, c2S0, _⟩ := S2.open1; obtain ⟨l3S, c3S0, c3S1, c3S2, _⟩ := S3.open3; obtain ⟨l4S, c4S0, c4S1, c4S2, _⟩ := S4.open3; clear S0 S1 S2 S3 S4; go_simp; (try with_reducible rfl))
    try simp only [Act.put, List.setIfInBounds_toArray, List.set_cons_zero, List.set_cons_succ]
    refine takeL (i := 11) (oi := ?_) (v := ?_) ?_ (by kernel_rfl) (by kernel_rfl) (by kernel_rfl) (by kernel_rfl) ?_ (Or.inl ⟨?_, ?_⟩) (by assumption) ?_
    rotate_left 2
    · (simp only [List.getElem?_toArray, List.getElem?_cons_succ, List.getElem?_cons_zero]; rfl)
    · exact fun _ _ _ h => h
    · rfl
    · (intro w hSw; (try dsimp only at hSw); obtain ⟨S0, S1, S2, S3, S4⟩ := hSw; obtain ⟨l0S, c0S0, c0S1, c0S2, _⟩ := S0.open3; obtain ⟨l1S, c1S0, c1S1, c1S2, _⟩ := S1.open3; obtain ⟨l2S, c2S0, _⟩ := S2.open1; obtain ⟨l3S, c3S0, c3S1, c3S2, _⟩ := S3.open3; obtain ⟨l4S, c4S0, c4S1, c4S2, _⟩ := S4.open3; clear S0 S1 S2 S3 S4; go_simp; (try with_reducible rfl))
    try simp only [Act.put, List.setIfInBounds_toArray, List.set_cons_zero, List.set_cons_succ]
    refine takeL (i := 12) (oi := ?_) (v := ?_) ?_ (by kernel_rfl) (by kernel_rfl) (by kernel_rfl) (by kernel_rfl) ?_ (Or.inl ⟨?_, ?_⟩) (by assumption) ?_
    rotate_left 2
    · (simp only [List.getElem?_toArray, List.getElem?_cons_succ, List.getElem?_cons_zero]; rfl)
    · exact fun _ _ _ h => h
    · rfl
    · (intro w hSw; (try dsimp only at hSw); obtain ⟨S0, S1, S2, S3, S4⟩ := hSw; obtain ⟨l0S, c0S0, c0S1, c0S2, _⟩ := S0.open3; obtain ⟨l1S, c1S0, c1S1, c1S2, _⟩ := S1.open3; obtain ⟨l2S, c2S0, _⟩ := S2.open1; obtain ⟨l3S, c3S0, c3S1, c3S2, _⟩ := S3.open3; obtain ⟨l4S, c4S0, c4S1, c4S2, _⟩ := S4.open3; clear S0 S1 S2 S3 S4; go_simp; (try with_reducible rfl))
    try simp only [Act.put, List.setIfInBounds_toArray, List.set_cons_zero, List.set_cons_succ]
    refine takeL (i := 13) (oi := ?_) (v := ?_) ?_ (by kernel_rfl) (by kernel_rfl) (by kernel_rfl) (by kernel_rfl) ?_ (Or.inl ⟨?_, ?_⟩) (by assumption) ?_
    rotate_left 2
    · (simp only [List.getElem?_toArray, List.getElem?_cons_succ, List.getElem?_cons_zero]; rfl)
    · exact fun _ _ _ h => h
    · rfl
    · (intro w hSw; (try dsimp only at hSw); obtain ⟨S0, S1, S2, S3, S4⟩ := hSw; obtain ⟨l0S, c0S0, c0S1, c0S2, _⟩ := S0.open3; obtain ⟨l1S, c1S0, c1S1, c1S2, _⟩ := S1.open3; obtain ⟨l2S, c2S0, _⟩ := S2.open1; obtain ⟨l3S, c3S0, c3S1, c3S2, _⟩ := S3.open3; obtain ⟨l4S, c4S0, c4S1, c4S2, _⟩ := S4.open3; clear S0 S1 S2 S3 S4; go_simp; (try with_reducible rfl))
    try simp only [Act.put, List.setIfInBounds_toArray, List.set_cons_zero, List.set_cons_succ]
    refine readyL (rs := [14]) (by kernel_rfl) (by simp) ?_
    refine AllReadyL.cons (o := ?_) ?_ (fun K hK => ?_) AllReadyL.none_
    rotate_left
    · (simp only [List.getElem?_toArray, List.getElem?_cons_succ, List.getElem?_cons_zero]; rfl)
    go_simp
    go_at_call 26
    ((with_reducible refine (sameImage_same _ _ _ _ _ _ _ _ _ _ _ _ ds _ Icw47.out Ijw47.out).mono ?_))
    rintro e w48 ⟨rfl, hbw48⟩
    clear liw47 ciw47_0 ciw47_1 ciw47_2 fiw47_0 fiw47_1 fiw47_2 ljw47 cjw47_0 cjw47_1 cjw47_2 fjw47_0 fjw47_1 fjw47_2 ldw47 cdw47_0 fdw47_0 lxw47 cxw47_0 cxw47_1 cxw47_2 fxw47_0 fxw47_1 fxw47_2 lcw47 ccw47_0 ccw47_1 ccw47_2 fcw47_0 fcw47_1 fcw47_2
    have bbw48 := Lib.hid (later bbw47.out hbw48)
    have hzw48 := hbw48.size
    have Viw48 := Lib.hid (Viw47.out.step hbw48)
    have Vjw48 := Lib.hid (Vjw47.out.step hbw48)
    have Vdw48 := Lib.hid (Vdw47.out.step hbw48)
    have Vxw48 := Lib.hid (Vxw47.out.step hbw48)
    have Vcw48 := Lib.hid (Vcw47.out.step hbw48)
    have Iiw48 : Hid _ := Lib.hid (Iiw47.out.step hbw48)
    have Ijw48 : Hid _ := Lib.hid (Ijw47.out.step hbw48)
    have Idw48 : Hid _ := Lib.hid (Idw47.out.step hbw48)
    have Ixw48 : Hid _ := Lib.hid (Ixw47.out.step hbw48)
    have Icw48 : Hid _ := Lib.hid (Icw47.out.step hbw48)
    clear Viw47
    clear Vjw47
    clear Vdw47
    clear Vxw47
    clear Vcw47
    clear Iiw47
    clear Ijw47
    clear Idw47
    clear Ixw47
    clear Icw47
    obtain ⟨liw48, ciw48_0, ciw48_1, ciw48_2, fiw48_0, fiw48_1, fiw48_2⟩ := Viw48.out.open3
    obtain ⟨ljw48, cjw48_0, cjw48_1, cjw48_2, fjw48_0, fjw48_1, fjw48_2⟩ := Vjw48.out.open3
    obtain ⟨ldw48, cdw48_0, fdw48_0⟩ := Vdw48.out.open1
    obtain ⟨lxw48, cxw48_0, cxw48_1, cxw48_2, fxw48_0, fxw48_1, fxw48_2⟩ := Vxw48.out.open3
    obtain ⟨lcw48, ccw48_0, ccw48_1, ccw48_2, fcw48_0, fcw48_1, fcw48_2⟩ := Vcw48.out.open3
    have B9 := hbw48
    refine hK.out _ _ ?_ (fun hHeld => ?_)
    · (first | exact ⟨VB.step (hHeld.1) B9, VB.step (hHeld.2.1) B9, VB.step (hHeld.2.2.1) B9, VB.step (hHeld.2.2.2.1) B9, VB.step (hHeld.2.2.2.2) B9⟩ | exact ⟨VB.alloc (hHeld.1) _, VB.alloc (hHeld.2.1) _, VB.alloc (hHeld.2.2.1) _, VB.alloc (hHeld.2.2.2.1) _, VB.alloc (hHeld.2.2.2.2) _⟩ | exact ⟨VB.drew (VB.alloc (show VB w44 _ _ from hHeld.1) _), VB.drew (VB.alloc (show VB w44 _ _ from hHeld.2.1) _), VB.drew (VB.alloc (show VB w44 _ _ from hHeld.2.2.1) _), VB.drew (VB.alloc (show VB w44 _ _ from hHeld.2.2.2.1) _), VB.drew (VB.alloc (show VB w44 _ _ from hHeld.2.2.2.2) _)⟩ | exact ⟨VB.drew Viw44.out, VB.drew Vjw44.out, VB.drew Vdw44.out, VB.drew Vxw44.out, VB.drew Vcw44.out⟩)
    clear hK K
    try simp only [Act.put, List.setIfInBounds_toArray, List.set_cons_zero, List.set_cons_succ]
    refine takeL (i := 15) (oi := ?_) (v := ?_) ?_ (by kernel_rfl) (by kernel_rfl) (by kernel_rfl) (by kernel_rfl) ?_ (Or.inl ⟨?_, ?_⟩) (by assumption) ?_
    rotate_left 2
    · (simp only [List.getElem?_toArray, List.getElem?_cons_succ, List.getElem?_cons_zero]; rfl)
    · exact fun _ _ _ h => h
    · rfl
    · (intro w hSw; (try dsimp only at hSw); obtain ⟨S0, S1, S2, S3, S4⟩ := hSw; obtain ⟨l0S, c0S0, c0S1, c0S2, _⟩ := S0.open3; obtain ⟨l1S, c1S0, c1S1, c1S2, _⟩ := S1.open3; obtain ⟨l2S, c2S0, _⟩ := S2.open1; obtain ⟨l3S, c3S0, c3S1, c3S2, _⟩ := S3.open3; obtain ⟨l4S, c4S0, c4S1, c4S2, _⟩ := S4.open3; clear S0 S1 S2 S3 S4; go_simp; (try with_reducible rfl))
    try simp only [Act.put, List.setIfInBounds_toArray, List.set_cons_zero, List.set_cons_succ]
    refine takeL (i := 16) (oi := ?_) (v := ?_) ?_ (by kernel_rfl) (by kernel_rfl) (by kernel_rfl) (by kernel_rfl) ?_ (Or.inl ⟨?_, ?_⟩) (by assumption) ?_
    rotate_left 2
    · (simp only [List.getElem?_toArray, List.getElem?_cons_succ, List.getElem?_cons_zero]; rfl)
    · exact fun _ _ _ h => h
    · rfl
    · (intro w hSw; (try dsimp only at hSw); obtain ⟨S0, S1, S2, S3, S4⟩ := hSw; obtain ⟨l0S, c0S0, c0S1, c0S2, _⟩ := S0.open3; obtain ⟨l1S, c1S0, c1S1, c1S2, _⟩ := S1.open3; obtain ⟨l2S, c2S0, _⟩ := S2.open1; obtain ⟨l3S, c3S0, c3S1, c3S2, _⟩ := S3.open3; obtain ⟨l4S, c4S0, c4S1, c4S2, _⟩ := S4.open3; clear S0 S1 S2 S3 S4; go_simp; (try with_reducible rfl))
    try simp only [Act.put, List.setIfInBounds_toArray, List.set_cons_zero, List.set_cons_succ]
    refine takeL (i := 17) (oi := ?_) (v := ?_) ?_ (by kernel_rfl) (by kernel_rfl) (by kernel_rfl) (by kernel_rfl) ?_ (Or.inl ⟨?_, ?_⟩) (by assumption) ?_
    rotate_left 2
    · (simp only [List.getElem?_toArray, List.getElem?_cons_succ, List.getElem?_cons_zero]; rfl)
    · exact fun _ _ _ h => h
    · rfl
    · (intro w hSw; (try dsimp only at hSw); obtain ⟨S0, S1, S2, S3, S4⟩ := hSw; obtain ⟨l0S, c0S0, c0S1, c0S2, _⟩ := S0.open3; obtain ⟨l1S, c1S0, c1S1, c1S2, _⟩ := S1.open3; obtain ⟨l2S, c2S0, _⟩ := S2.open1; obtain ⟨l3S, c3S0, c3S1, c3S2, _⟩ := S3.open3; obtain ⟨l4S, c4S0, c4S1, c4S2, _⟩ := S4.open3; clear S0 S1 S2 S3 S4; go_simp; (try with_reducible rfl))
    try simp only [Act.put, List.setIfInBounds_toArray, List.set_cons_zero, List.set_cons_succ]
    refine takeL (i := 19) (oi := ?_) (v := ?_) ?_ (by kernel_rfl) (by kernel_rfl) (by kernel_rfl) (by kernel_rfl) ?_ (Or.inl ⟨?_, ?_⟩) (by assumption) ?_
    rotate_left 2
    · (simp only [List.getElem?_toArray, List.getElem?_cons_succ, List.getElem?_cons_zero]; rfl)
    · exact fun _ _ _ h => h
    · rfl
    · (intro w hSw; (try dsimp only at hSw); obtain ⟨S0, S1, S2, S3, S4⟩ := hSw; obtain ⟨l0S, c0S0, c0S1, c0S2, _⟩ := S0.open3; obtain ⟨l1S, c1S0, c1S1, c1S2, _⟩ := S1.open3; obtain ⟨l2S, c2S0, _⟩ := S2.open1; obtain ⟨l3S, c3S0, c3S1, c3S2, _⟩ := S3.open3; obtain ⟨l4S, c4S0, c4S1, c4S2, _⟩ := S4.open3; clear S0 S1 S2 S3 S4; go_simp; (try with_reducible rfl))
    try simp only [Act.put, List.setIfInBounds_toArray, List.set_cons_zero, List.set_cons_succ]
    refine takeL (i := 20) (oi := ?_) (v := ?_) ?_ (by kernel_rfl) (by kernel_rfl) (by kernel_rfl) (by kernel_rfl) ?_ (Or.inl ⟨?_, ?_⟩) (by assumption) ?_
    rotate_left 2
    · (simp only [List.getElem?_toArray, List.getElem?_cons_succ, List.getElem?_cons_zero]; rfl)
    · exact fun _ _ _ h => h
    · rfl
    · (intro w hSw; (try dsimp only at hSw); obtain ⟨S0, S1, S2, S3, S4⟩ := hSw; obtain ⟨l0S, c0S0, c0S1, c0S2, _⟩ := S0.open3; obtain ⟨l1S, c1S0, c1S1, c1S2, _⟩ := S1.open3; obtain ⟨l2S, c2S0, _⟩ := S2.open1; obtain ⟨l3S, c3S0, c3S1, c3S2, _⟩ := S3.open3; obtain ⟨l4S, c4S0, c4S1, c4S2, _⟩ := S4.open3; clear S0 S1 S2 S3 S4; go_simp; (try with_reducible rfl))
    try simp only [Act.put, List.setIfInBounds_toArray, List.set_cons_zero, List.set_cons_succ]
    refine takeL (i := 21) (oi := ?_) (v := ?_) ?_ (by kernel_rfl) (by kernel_rfl) (by kernel_rfl) (by kernel_rfl) ?_ (Or.inl ⟨?_, ?_⟩) (by assumption) ?_
    rotate_left 2
    · (simp only [List.getElem?_toArray, List.getElem?_cons_succ, List.getElem?_cons_zero]; rfl)
    · exact fun _ _ _ h => h
    · rfl
    · (intro w hSw; (try dsimp only at hSw); obtain ⟨S0, S1, S2, S3, S4⟩ := hSw; obtain ⟨l0S, c0S0, c0S1, c0S2, _⟩ := S0.open3; obtain ⟨l1S, c1S0, c1S1, c1S2, _⟩ := S1.open3; obtain ⟨l2S, c2S0, _⟩ := S2.open1; obtain ⟨l3S, c3S0, c3S1, c3S2, _⟩ := S3.open3; obtain ⟨l4S, c4S0, c4S1, c4S2, _⟩ := S4.open3; clear S0 S1 S2 S3 S4; go_simp; (try with_reducible rfl))
    try simp only [Act.put, List.setIfInBounds_toArray, List.set_cons_zero, List.set_cons_succ]
    refine takeL (i := 22) (oi := ?_) (v := ?_) ?_ (by kernel_rfl) (by kernel_rfl) (by kernel_rfl) (by kernel_rfl) ?_ (Or.inl ⟨?_, ?_⟩) (by assumption) ?_
    rotate_left 2
    · (simp only [List.getElem?_toArray, List.getElem?_cons_succ, List.getElem?_cons_zero]; rfl)
    · exact fun _ _ _ h => h
    · rfl
    · (intro w hSw; (try dsimp only at hSw); obtain ⟨S0, S1, S2, S3, S4⟩ := hSw; obtain ⟨l0S, c0S0, c0S1, c0S2, _⟩ := S0.open3; obtain ⟨l1S, c1S0, c1S1, c1S2, _⟩ := S1.open3; obtain ⟨l2S, c2S0, _⟩ := S2.open1; obtain ⟨l3S, c3S0, c3S1, c3S2, _⟩ := S3.open3; obtain ⟨l4S, c4S0, c4S1, c4S2, _⟩ := S4.open3; clear S0 S1 S2 S3 S4; go_simp; (try with_reducible rfl))
    try simp only [Act.put, List.setIfInBounds_toArray, List.set_cons_zero, List.set_cons_succ]
    refine takeL (i := 23) (oi := ?_) (v := ?_) ?_ (by kernel_rfl) (by kernel_rfl) (by kernel_rfl) (by kernel_rfl) ?_ (Or.inl ⟨?_, ?_⟩) (by assumption) ?_
    rotate_left 2
    · (simp only [List.getElem?_toArray, List.getElem?_cons_succ, List.getElem?_cons_zero]; rfl)
    · exact fun _ _ _ h => h
    · rfl
    · (intro w hSw; (try dsimp only at hSw); obtain ⟨S0, S1, S2, S3, S4⟩ := hSw; obtain ⟨l0S, c0S0, c0S1, c0S2, _⟩ := S0.open3; obtain ⟨l1S, c1S0, c1S1, c1S2, _⟩ := S1.open3; obtain ⟨l2S, c2S0, _⟩ := S2.open1; obtain ⟨l3S, c3S0, c3S1, c3S2, _⟩ := S3.open3; obtain ⟨l4S, c4S0, c4S1, c4S2, _⟩ := S4.open3; clear S0 S1 S2 S3 S4; go_simp; (try with_reducible rfl))
    try simp only [Act.put, List.setIfInBounds_toArray, List.set_cons_zero, List.set_cons_succ]
    refine readyL (rs := [18]) (by kernel_rfl) (by simp) ?_
    refine AllReadyL.cons (o := ?_) ?_ (fun K hK => ?_) AllReadyL.none_
    rotate_left
    · (simp only [List.getElem?_toArray, List.getElem?_cons_succ, List.getElem?_cons_zero]; rfl)
    go_simp
    go_at_call 27
    ((with_reducible refine (areaV _ _ _ dd ar _ HA.out (Recs.arg Idw48.out) rfl (by omega)).mono ?_))
    rintro e w49 ⟨rfl, hbw49⟩
    clear liw48 ciw48_0 ciw48_1 ciw48_2 fiw48_0 fiw48_1 fiw48_2 ljw48 cjw48_0 cjw48_1 cjw48_2 fjw48_0 fjw48_1 fjw48_2 ldw48 cdw48_0 fdw48_0 lxw48 cxw48_0 cxw48_1 cxw48_2 fxw48_0 fxw48_1 fxw48_2 lcw48 ccw48_0 ccw48_1 ccw48_2 fcw48_0 fcw48_1 fcw48_2
    have bbw49 := Lib.hid (later bbw48.out hbw49)
    have hzw49 := hbw49.size
    have Viw49 := Lib.hid (Viw48.out.step hbw49)
    have Vjw49 := Lib.hid (Vjw48.out.step hbw49)
    have Vdw49 := Lib.hid (Vdw48.out.step hbw49)
    have Vxw49 := Lib.hid (Vxw48.out.step hbw49)
    have Vcw49 := Lib.hid (Vcw48.out.step hbw49)
    have Iiw49 : Hid _ := Lib.hid (Iiw48.out.step hbw49)
    have Ijw49 : Hid _ := Lib.hid (Ijw48.out.step hbw49)
    have Idw49 : Hid _ := Lib.hid (Idw48.out.step hbw49)
    have Ixw49 : Hid _ := Lib.hid (Ixw48.out.step hbw49)
    have Icw49 : Hid _ := Lib.hid (Icw48.out.step hbw49)
    clear Viw48
    clear Vjw48
    clear Vdw48
    clear Vxw48
    clear Vcw48
    clear Iiw48
    clear Ijw48
    clear Idw48
    clear Ixw48
    clear Icw48
    obtain ⟨liw49, ciw49_0, ciw49_1, ciw49_2, fiw49_0, fiw49_1, fiw49_2⟩ := Viw49.out.open3
    obtain ⟨ljw49, cjw49_0, cjw49_1, cjw49_2, fjw49_0, fjw49_1, fjw49_2⟩ := Vjw49.out.open3
    obtain ⟨ldw49, cdw49_0, fdw49_0⟩ := Vdw49.out.open1
    obtain ⟨lxw49, cxw49_0, cxw49_1, cxw49_2, fxw49_0, fxw49_1, fxw49_2⟩ := Vxw49.out.open3
    obtain ⟨lcw49, ccw49_0, ccw49_1, ccw49_2, fcw49_0, fcw49_1, fcw49_2⟩ := Vcw49.out.open3
    have B9 := hbw49
    refine hK.out _ _ ?_ (fun hHeld => ?_)
    · (first | exact ⟨VB.step (hHeld.1) B9, VB.step (hHeld.2.1) B9, VB.step (hHeld.2.2.1) B9, VB.step (hHeld.2.2.2.1) B9, VB.step (hHeld.2.2.2.2) B9⟩ | exact ⟨VB.alloc (hHeld.1) _, VB.alloc (hHeld.2.1) _, VB.alloc (hHeld.2.2.1) _, VB.alloc (hHeld.2.2.2.1) _, VB.alloc (hHeld.2.2.2.2) _⟩ | exact ⟨VB.drew (VB.alloc (show VB w44 _ _ from hHeld.1) _), VB.drew (VB.alloc (show VB w44 _ _ from hHeld.2.1) _), VB.drew (VB.alloc (show VB w44 _ _ from hHeld.2.2.1) _), VB.drew (VB.alloc (show VB w44 _ _ from hHeld.2.2.2.1) _), VB.drew (VB.alloc (show VB w44 _ _ from hHeld.2.2.2.2) _)⟩ | exact ⟨VB.drew Viw44.out, VB.drew Vjw44.out, VB.drew Vdw44.out, VB.drew Vxw44.out, VB.drew Vcw44.out⟩)
    clear hK K
    try simp only [Act.put, List.setIfInBounds_toArray, List.set_cons_zero, List.set_cons_succ]
    refine takeL (i := 24) (oi := ?_) (v := ?_) ?_ (by kernel_rfl) (by kernel_rfl) (by kernel_rfl) (by kernel_rfl) ?_ (Or.inl ⟨?_, ?_⟩) (by assumption) ?_
    rotate_left 2
    · (simp only [List.getElem?_toArray, List.getElem?_cons_succ, List.getElem?_cons_zero]; rfl)
    · exact fun _ _ _ h => h
    · rfl
    · (intro w hSw; (try dsimp only at hSw); obtain ⟨S0, S1, S2, S3, S4⟩ := hSw; obtain ⟨l0S, c0S0, c0S1, c0S2, _⟩ := S0.open3; obtain ⟨l1S, c1S0, c1S1, c1S2, _⟩ := S1.open3; obtain ⟨l2S, c2S0, _⟩ := S2.open1; obtain ⟨l3S, c3S0, c3S1, c3S2, _⟩ := S3.open3; obtain ⟨l4S, c4S0, c4S1, c4S2, _⟩ := S4.open3; clear S0 S1 S2 S3 S4; go_simp; (try with_reducible rfl))
    try simp only [Act.put, List.setIfInBounds_toArray, List.set_cons_zero, List.set_cons_succ]
    refine takeL (i := 25) (oi := ?_) (v := ?_) ?_ (by kernel_rfl) (by kernel_rfl) (by kernel_rfl) (by kernel_rfl) ?_ (Or.inl ⟨?_, ?_⟩) (by assumption) ?_
    rotate_left 2
    · (simp only [List.getElem?_toArray, List.getElem?_cons_succ, List.getElem?_cons_zero]; rfl)
    · exact fun _ _ _ h => h
    · rfl
    · (intro w hSw; (try dsimp only at hSw); obtain ⟨S0, S1, S2, S3, S4⟩ := hSw; obtain ⟨l0S, c0S0, c0S1, c0S2, _⟩ := S0.open3; obtain ⟨l1S, c1S0, c1S1, c1S2, _⟩ := S1.open3; obtain ⟨l2S, c2S0, _⟩ := S2.open1; obtain ⟨l3S, c3S0, c3S1, c3S2, _⟩ := S3.open3; obtain ⟨l4S, c4S0, c4S1, c4S2, _⟩ := S4.open3; clear S0 S1 S2 S3 S4; go_simp; (try with_reducible rfl))
    try simp only [Act.put, List.setIfInBounds_toArray, List.set_cons_zero, List.set_cons_succ]
    refine takeL (i := 26) (oi := ?_) (v := ?_) ?_ (by kernel_rfl) (by kernel_rfl) (by kernel_rfl) (by kernel_rfl) ?_ (Or.inl ⟨?_, ?_⟩) (by assumption) ?_
    rotate_left 2
    · (simp only [List.getElem?_toArray, List.getElem?_cons_succ, List.getElem?_cons_zero]; rfl)
    · exact fun _ _ _ h => h
    · rfl
    · (intro w hSw; (try dsimp only at hSw); obtain ⟨S0, S1, S2, S3, S4⟩ := hSw; obtain ⟨l0S, c0S0, c0S1, c0S2, _⟩ := S0.open3; obtain ⟨l1S, c1S0, c1S1, c1S2, _⟩ := S1.open3; obtain ⟨l2S, c2S0, _⟩ := S2.open1; obtain ⟨l3S, c3S0, c3S1, c3S2, _⟩ := S3.open3; obtain ⟨l4S, c4S0, c4S1, c4S2, _⟩ := S4.open3; clear S0 S1 S2 S3 S4; go_simp; (try with_reducible rfl))
    try simp only [Act.put, List.setIfInBounds_toArray, List.set_cons_zero, List.set_cons_succ]
    refine takeL (i := 27) (oi := ?_) (v := ?_) ?_ (by kernel_rfl) (by kernel_rfl) (by kernel_rfl) (by kernel_rfl) ?_ (Or.inl ⟨?_, ?_⟩) (by assumption) ?_
    rotate_left 2
    · (simp only [List.getElem?_toArray, List.getElem?_cons_succ, List.getElem?_cons_zero]; rfl)
    · exact fun _ _ _ h => h
    · rfl
    · (intro w hSw; (try dsimp only at hSw); obtain ⟨S0, S1, S2, S3, S4⟩ := hSw; obtain ⟨l0S, c0S0, c0S1, c0S2, _⟩ := S0.open3; obtain ⟨l1S, c1S0, c1S1, c1S2, _⟩ := S1.open3; obtain ⟨l2S, c2S0, _⟩ := S2.open1; obtain ⟨l3S, c3S0, c3S1, c3S2, _⟩ := S3.open3; obtain ⟨l4S, c4S0, c4S1, c4S2, _⟩ := S4.open3; clear S0 S1 S2 S3 S4; go_simp; (try with_reducible rfl))
    try simp only [Act.put, List.setIfInBounds_toArray, List.set_cons_zero, List.set_cons_succ]
    refine takeL (i := 30) (oi := ?_) (v := ?_) ?_ (by kernel_rfl) (by kernel_rfl) (by kernel_rfl) (by kernel_rfl) ?_ (Or.inl ⟨?_, ?_⟩) (by assumption) ?_
    rotate_left 2
    · (simp only [List.getElem?_toArray, List.getElem?_cons_succ, List.getElem?_cons_zero]; rfl)
    · exact fun _ _ _ h => h
    · rfl
    · (intro w hSw; (try dsimp only at hSw); obtain ⟨S0, S1, S2, S3, S4⟩ := hSw; obtain ⟨l0S, c0S0, c0S1, c0S2, _⟩ := S0.open3; obtain ⟨l1S, c1S0, c1S1, c1S2, _⟩ := S1.open3; obtain ⟨l2S, c2S0, _⟩ := S2.open1; obtain ⟨l3S, c3S0, c3S1, c3S2, _⟩ := S3.open3; obtain ⟨l4S, c4S0, c4S1, c4S2, _⟩ := S4.open3; clear S0 S1 S2 S3 S4; go_simp; (try with_reducible rfl))
    try simp only [Act.put, List.setIfInBounds_toArray, List.set_cons_zero, List.set_cons_succ]
    refine takeL (i := 31) (oi := ?_) (v := ?_) ?_ (by kernel_rfl) (by kernel_rfl) (by kernel_rfl) (by kernel_rfl) ?_ (Or.inl ⟨?_, ?_⟩) (by assumption) ?_
    rotate_left 2
    · (simp only [List.getElem?_toArray, List.getElem?_cons_succ, List.getElem?_cons_zero]; rfl)
    · exact fun _ _ _ h => h
    · rfl
    · (intro w hSw; (try dsimp only at hSw); obtain ⟨S0, S1, S2, S3, S4⟩ := hSw; obtain ⟨l0S, c0S0, c0S1, c0S2, _⟩ := S0.open3; obtain ⟨l1S, c1S0, c1S1, c1S2, _⟩ := S1.open3; obtain ⟨l2S, c2S0, _⟩ := S2.open1; obtain ⟨l3S, c3S0, c3S1, c3S2, _⟩ := S3.open3; obtain ⟨l4S, c4S0, c4S1, c4S2, _⟩ := S4.open3; clear S0 S1 S2 S3 S4; go_simp; (try with_reducible rfl))
    try simp only [Act.put, List.setIfInBounds_toArray, List.set_cons_zero, List.set_cons_succ]
    refine readyL (rs := [28]) (by kernel_rfl) (by simp) ?_
    refine AllReadyL.cons (o := ?_) ?_ (fun K hK => ?_) AllReadyL.none_
    rotate_left
    · (simp only [List.getElem?_toArray, List.getElem?_cons_succ, List.getElem?_cons_zero]; rfl)
    go_simp
    go_at_call 27
    ((with_reducible refine (areaV _ _ _ dd ar _ HA.out (Recs.arg Idw49.out) rfl (by omega)).mono ?_))
    rintro e w50 ⟨rfl, hbw50⟩
    clear liw49 ciw49_0 ciw49_1 ciw49_2 fiw49_0 fiw49_1 fiw49_2 ljw49 cjw49_0 cjw49_1 cjw49_2 fjw49_0 fjw49_1 fjw49_2 ldw49 cdw49_0 fdw49_0 lxw49 cxw49_0 cxw49_1 cxw49_2 fxw49_0 fxw49_1 fxw49_2 lcw49 ccw49_0 ccw49_1 ccw49_2 fcw49_0 fcw49_1 fcw49_2
    have bbw50 := Lib.hid (later bbw49.out hbw50)
    have hzw50 := hbw50.size
    have Viw50 := Lib.hid (Viw49.out.step hbw50)
    have Vjw50 := Lib.hid (Vjw49.out.step hbw50)
    have Vdw50 := Lib.hid (Vdw49.out.step hbw50)
    have Vxw50 := Lib.hid (Vxw49.out.step hbw50)
    have Vcw50 := Lib.hid (Vcw49.out.step hbw50)
    have Iiw50 : Hid _ := Lib.hid (Iiw49.out.step hbw50)
    have Ijw50 : Hid _ := Lib.hid (Ijw49.out.step hbw50)
    have Idw50 : Hid _ := Lib.hid (Idw49.out.step hbw50)
    have Ixw50 : Hid _ := Lib.hid (Ixw49.out.step hbw50)
    have Icw50 : Hid _ := Lib.hid (Icw49.out.step hbw50)
    clear Viw49
    clear Vjw49
    clear Vdw49
    clear Vxw49
    clear Vcw49
    clear Iiw49
    clear Ijw49
    clear Idw49
    clear Ixw49
    clear Icw49
    obtain ⟨liw50, ciw50_0, ciw50_1, ciw50_2, fiw50_0, fiw50_1, fiw50_2⟩ := Viw50.out.open3
    obtain ⟨ljw50, cjw50_0, cjw50_1, cjw50_2, fjw50_0, fjw50_1, fjw50_2⟩ := Vjw50.out.open3
    obtain ⟨ldw50, cdw50_0, fdw50_0⟩ := Vdw50.out.open1
    obtain ⟨lxw50, cxw50_0, cxw50_1, cxw50_2, fxw50_0, fxw50_1, fxw50_2⟩ := Vxw50.out.open3
    obtain ⟨lcw50, ccw50_0, ccw50_1, ccw50_2, fcw50_0, fcw50_1, fcw50_2⟩ := Vcw50.out.open3
    have B9 := hbw50
    refine hK.out _ _ ?_ (fun hHeld => ?_)
    · (first | exact ⟨VB.step (hHeld.1) B9, VB.step (hHeld.2.1) B9, VB.step (hHeld.2.2.1) B9, VB.step (hHeld.2.2.2.1) B9, VB.step (hHeld.2.2.2.2) B9⟩ | exact ⟨VB.alloc (hHeld.1) _, VB.alloc (hHeld.2.1) _, VB.alloc (hHeld.2.2.1) _, VB.alloc (hHeld.2.2.2.1) _, VB.alloc (hHeld.2.2.2.2) _⟩ | exact ⟨VB.drew (VB.alloc (show VB w44 _ _ from hHeld.1) _), VB.drew (VB.alloc (show VB w44 _ _ from hHeld.2.1) _), VB.drew (VB.alloc (show VB w44 _ _ from hHeld.2.2.1) _), VB.drew (VB.alloc (show VB w44 _ _ from hHeld.2.2.2.1) _), VB.drew (VB.alloc (show VB w44 _ _ from hHeld.2.2.2.2) _)⟩ | exact ⟨VB.drew Viw44.out, VB.drew Vjw44.out, VB.drew Vdw44.out, VB.drew Vxw44.out, VB.drew Vcw44.out⟩)
    clear hK K
    try simp only [Act.put, List.setIfInBounds_toArray, List.set_cons_zero, List.set_cons_succ]
    refine takeL (i := 29) (oi := ?_) (v := ?_) ?_ (by kernel_rfl) (by kernel_rfl) (by kernel_rfl) (by kernel_rfl) ?_ (Or.inl ⟨?_, ?_⟩) (by assumption) ?_
    rotate_left 2
    · (simp only [List.getElem?_toArray, List.getElem?_cons_succ, List.getElem?_cons_zero]; rfl)
    · exact fun _ _ _ h => h
    · rfl
    · (intro w hSw; (try dsimp only at hSw); obtain ⟨S0, S1, S2, S3, S4⟩ := hSw; obtain ⟨l0S, c0S0, c0S1, c0S2, _⟩ := S0.open3; obtain ⟨l1S, c1S0, c1S1, c1S2, _⟩ := S1.open3; obtain ⟨l2S, c2S0, _⟩ := S2.open1; obtain ⟨l3S, c3S0, c3S1, c3S2, _⟩ := S3.open3; obtain ⟨l4S, c4S0, c4S1, c4S2, _⟩ := S4.open3; clear S0 S1 S2 S3 S4; go_simp; (try with_reducible rfl))
    try simp only [Act.put, List.setIfInBounds_toArray, List.set_cons_zero, List.set_cons_succ]
    refine readyL (rs := [32]) (by kernel_rfl) (by simp) ?_
    refine AllReadyL.cons (o := ?_) ?_ (fun K hK => ?_) AllReadyL.none_
    rotate_left
    · (simp only [List.getElem?_toArray, List.getElem?_cons_succ, List.getElem?_cons_zero]; rfl)
    go_simp
    go_at_call 26
    ((with_reducible refine (sameImageV _ _ _ _ _ _ _ _ _ _ _ _ zs ds b _ HB0.out Iiw50.out Ijw50.out).mono ?_))
    rintro e w51 ⟨rfl, hbw51⟩
    clear liw50 ciw50_0 ciw50_1 ciw50_2 fiw50_0 fiw50_1 fiw50_2 ljw50 cjw50_0 cjw50_1 cjw50_2 fjw50_0 fjw50_1 fjw50_2 ldw50 cdw50_0 fdw50_0 lxw50 cxw50_0 cxw50_1 cxw50_2 fxw50_0 fxw50_1 fxw50_2 lcw50 ccw50_0 ccw50_1 ccw50_2 fcw50_0 fcw50_1 fcw50_2
    have bbw51 := Lib.hid (later bbw50.out hbw51)
    have hzw51 := hbw51.size
    have Viw51 := Lib.hid (Viw50.out.step hbw51)
    have Vjw51 := Lib.hid (Vjw50.out.step hbw51)
    have Vdw51 := Lib.hid (Vdw50.out.step hbw51)
    have Vxw51 := Lib.hid (Vxw50.out.step hbw51)
    have Vcw51 := Lib.hid (Vcw50.out.step hbw51)
    have Iiw51 : Hid _ := Lib.hid (Iiw50.out.step hbw51)
    have Ijw51 : Hid _ := Lib.hid (Ijw50.out.step hbw51)
    have Idw51 : Hid _ := Lib.hid (Idw50.out.step hbw51)
    have Ixw51 : Hid _ := Lib.hid (Ixw50.out.step hbw51)
    have Icw51 : Hid _ := Lib.hid (Icw50.out.step hbw51)
    clear Viw50
    clear Vjw50
    clear Vdw50
    clear Vxw50
    clear Vcw50
    clear Iiw50
    clear Ijw50
    clear Idw50
    clear Ixw50
    clear Icw50
    obtain ⟨liw51, ciw51_0, ciw51_1, ciw51_2, fiw51_0, fiw51_1, fiw51_2⟩ := Viw51.out.open3
    obtain ⟨ljw51, cjw51_0, cjw51_1, cjw51_2, fjw51_0, fjw51_1, fjw51_2⟩ := Vjw51.out.open3
    obtain ⟨ldw51, cdw51_0, fdw51_0⟩ := Vdw51.out.open1
    obtain ⟨lxw51, cxw51_0, cxw51_1, cxw51_2, fxw51_0, fxw51_1, fxw51_2⟩ := Vxw51.out.open3
    obtain ⟨lcw51, ccw51_0, ccw51_1, ccw51_2, fcw51_0, fcw51_1, fcw51_2⟩ := Vcw51.out.open3
    have B9 := hbw51
    refine hK.out _ _ ?_ (fun hHeld => ?_)
    · (first | exact ⟨VB.step (hHeld.1) B9, VB.step (hHeld.2.1) B9, VB.step (hHeld.2.2.1) B9, VB.step (hHeld.2.2.2.1) B9, VB.step (hHeld.2.2.2.2) B9⟩ | exact ⟨VB.alloc (hHeld.1) _, VB.alloc (hHeld.2.1) _, VB.alloc (hHeld.2.2.1) _, VB.alloc (hHeld.2.2.2.1) _, VB.alloc (hHeld.2.2.2.2) _⟩ | exact ⟨VB.drew (VB.alloc (show VB w44 _ _ from hHeld.1) _), VB.drew (VB.alloc (show VB w44 _ _ from hHeld.2.1) _), VB.drew (VB.alloc (show VB w44 _ _ from hHeld.2.2.1) _), VB.drew (VB.alloc (show VB w44 _ _ from hHeld.2.2.2.1) _), VB.drew (VB.alloc (show VB w44 _ _ from hHeld.2.2.2.2) _)⟩ | exact ⟨VB.drew Viw44.out, VB.drew Vjw44.out, VB.drew Vdw44.out, VB.drew Vxw44.out, VB.drew Vcw44.out⟩)
    clear hK K
    try simp only [Act.put, List.setIfInBounds_toArray, List.set_cons_zero, List.set_cons_succ]
    refine takeL (i := 33) (oi := ?_) (v := ?_) ?_ (by kernel_rfl) (by kernel_rfl) (by kernel_rfl) (by kernel_rfl) ?_ (Or.inl ⟨?_, ?_⟩) (by assumption) ?_
    rotate_left 2
    · (simp only [List.getElem?_toArray, List.getElem?_cons_succ, List.getElem?_cons_zero]; rfl)
    · exact fun _ _ _ h => h
    · rfl
    · (intro w hSw; (try dsimp only at hSw); obtain ⟨S0, S1, S2, S3, S4⟩ := hSw; obtain ⟨l0S, c0S0, c0S1, c0S2, _⟩ := S0.open3; obtain ⟨l1S, c1S0, c1S1, c1S2, _⟩ := S1.open3; obtain ⟨l2S, c2S0, _⟩ := S2.open1; obtain ⟨l3S, c3S0, c3S1, c3S2, _⟩ := S3.open3; obtain ⟨l4S, c4S0, c4S1, c4S2, _⟩ := S4.open3; clear S0 S1 S2 S3 S4; go_simp; (try with_reducible rfl))
    try simp only [Act.put, List.setIfInBounds_toArray, List.set_cons_zero, List.set_cons_succ]
    refine takeL (i := 34) (oi := ?_) (v := ?_) ?_ (by kernel_rfl) (by kernel_rfl) (by kernel_rfl) (by kernel_rfl) ?_ (Or.inl ⟨?_, ?_⟩) (by assumption) ?_
    rotate_left 2
    · (simp only [List.getElem?_toArray, List.getElem?_cons_succ, List.getElem?_cons_zero]; rfl)
    · exact fun _ _ _ h => h
    · rfl
    · (intro w hSw; (try dsimp only at hSw); obtain ⟨S0, S1, S2, S3, S4⟩ := hSw; obtain ⟨l0S, c0S0, c0S1, c0S2, _⟩ := S0.open3; obtain ⟨l1S, c1S0, c1S1, c1S2, _⟩ := S1.open3; obtain ⟨l2S, c2S0, _⟩ := S2.open1; obtain ⟨l3S, c3S0, c3S1, c3S2, _⟩ := S3.open3; obtain ⟨l4S, c4S0, c4S1, c4S2, _⟩ := S4.open3; clear S0 S1 S2 S3 S4; go_simp; (try with_reducible rfl))
    try simp only [Act.put, List.setIfInBounds_toArray, List.set_cons_zero, List.set_cons_succ]
    refine takeL (i := 35) (oi := ?_) (v := ?_) ?_ (by kernel_rfl) (by kernel_rfl) (by kernel_rfl) (by kernel_rfl) ?_ (Or.inl ⟨?_, ?_⟩) (by assumption) ?_
    rotate_left 2
    · (simp only [List.getElem?_toArray, List.getElem?_cons_succ, List.getElem?_cons_zero]; rfl)
    · exact fun _ _ _ h => h
    · rfl
    · (intro w hSw; (try dsimp only at hSw); obtain ⟨S0, S1, S2, S3, S4⟩ := hSw; obtain ⟨l0S, c0S0, c0S1, c0S2, _⟩ := S0.open3; obtain ⟨l1S, c1S0, c1S1, c1S2, _⟩ := S1.open3; obtain ⟨l2S, c2S0, _⟩ := S2.open1; obtain ⟨l3S, c3S0, c3S1, c3S2, _⟩ := S3.open3; obtain ⟨l4S, c4S0, c4S1, c4S2, _⟩ := S4.open3; clear S0 S1 S2 S3 S4; go_simp; (try with_reducible rfl))
    try simp only [Act.put, List.setIfInBounds_toArray, List.set_cons_zero, List.set_cons_succ]
    refine doneL (by kernel_rfl) ?_ _
    go_wp2_with fail
    go_ret
    exact ⟨rfl, bbw51.out⟩
end Go.Proofs.Ytmjjepgnciibcaa
