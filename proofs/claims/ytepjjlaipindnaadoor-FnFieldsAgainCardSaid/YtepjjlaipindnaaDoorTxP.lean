/- Contracts over texts: ParseUint of both sides. -/
import Derived.Test.YtepjjlaipindnaaDoorTxF
import Derived.Test.YtepjjlaipindnaaDoorTxP0
import Derived.Test.YtepjjlaipindnaaDoorMem
namespace Go.Proofs.YtepjjlaipindnaaDoor
open Go.RowKit Go.Instr
set_option linter.unusedVariables false
set_option linter.unusedSimpArgs false
theorem global_lt {w : World} {n : String} {g : Nat} {cs : Array Value} (hg : Tryd.prog.globalNamed n = some g) (h : w.var? Tryd.prog n = some cs) : g < w.heap.size := by
  unfold World.var? at h
  simp only [hg, Option.bind_some] at h
  by_cases hx : g < w.heap.size
  · exact hx
  · rw [Array.getElem?_eq_none (by omega)] at h
    cases h
theorem var_below {w w' : World} {n : String} {g : Nat} {cs : Array Value} (hg : Tryd.prog.globalNamed n = some g) (h : w.var? Tryd.prog n = some cs) (hb : Below w.heap.size w w') : w'.var? Tryd.prog n = some cs := var?_below hb hg (global_lt hg h) h
theorem pow_below {w w' : World} (h : Lib.TabIs Tryd.prog w "internal/strconv.uint64pow10" .u64 Lib.pow10Tab) (hb : Below w.heap.size w w') : Lib.TabIs Tryd.prog w' "internal/strconv.uint64pow10" .u64 Lib.pow10Tab :=
  var_below (g := 5) (by kernel_rfl) h hb
theorem below_bytes (w w' : World) (s : ByteArray) (h : w' = w ∨ ∃ t, w' = Lib.bytesWorld w 5 t) : Below w.heap.size w w' := by
  rcases h with rfl | ⟨t, rfl⟩
  · exact Below.refl _ _
  · exact ⟨rfl, rfl, rfl, by rw [Lib.bytesWorld_size]; omega, fun k hk => Lib.bytesWorld_at_old w _ t k hk⟩
/-- What ParseUint asks of the world. -/
def Ready (w : World) : Prop := Lib.TabIs Tryd.prog w "internal/strconv.uint64pow10" .u64 Lib.pow10Tab ∧ (∃ tp p, w.var? Tryd.prog "strconv.ErrRange" = some #[.iface tp p]) ∧ ∃ tp p, w.var? Tryd.prog "strconv.ErrSyntax" = some #[.iface tp p]
theorem Ready.below {w w' : World} (h : Ready w) (hb : Below w.heap.size w w') : Ready w' := by
  obtain ⟨h1, ⟨t2, p2, h2⟩, t3, p3, h3⟩ := h
  exact ⟨pow_below h1 hb, ⟨t2, p2, var_below (g := 3) (by kernel_rfl) h2 hb⟩, t3, p3, var_below (g := 2) (by kernel_rfl) h3 hb⟩
theorem bytes_beq {l m : List UInt8} {b : Bool} (h : decide (l = m) = b) : (l == m) = b := by subst h; by_cases e : l = m <;> simp [e]
set_option maxRecDepth 100000 in
set_option maxHeartbeats 4000000 in
theorem specParse (s : ByteArray) (w : World) (hs : s.size ≤ 9223372036854775807) : Calls Tryd.prog 15 #[.string s] w fun e w' => e = .returned (.tuple #[.int .i64 (Pl.parseUint s.data.toList).1, .bool (Pl.parseUint s.data.toList).2]) ∧ Below w.heap.size w w' := by
  have hl := size_list s
  have hsl := ByteArray.toList_eq s
  obtain ⟨l, hll⟩ : ∃ l, l = s.data.toList := ⟨_, rfl⟩
  rw [← hll] at hl hsl ⊢
  obtain ⟨n, hn⟩ : ∃ n, s.size = n := ⟨_, rfl⟩
  rw [hn] at hs hl
  have HLL := Lib.hid hll
  have HL := Lib.hid hl
  clear hll hl
  obtain ⟨rt, hrt⟩ : ∃ rt, Pl.parseUint l = rt := ⟨_, rfl⟩
  rw [hrt]
  have HR := Lib.hid hrt
  clear hrt
  by_cases hbig : 10 < n
  · obtain rfl : rt = (0, false) := by rw [← HR.out]; exact Pl.parse_long (by rw [HL.out]; exact hbig)
    have hb : (10 : Int) < n := by omega
    go_enter Tryd.func15, Tryd.ntmps15
    go_wp2_with fail
    go_ret2
    exact ⟨rfl, Below.refl _ _⟩
  have hb : ¬ (10 : Int) < n := by omega
  go_enter Tryd.func15, Tryd.ntmps15
  go_wp2_with fail
  go_loopw [5, 4] (fun i v wr => ∃ (k x : Nat), k ≤ n ∧ i = .int .i64 k ∧ v = .int .i64 x ∧ Hid (Pl.num (l.take k) = x) ∧ Hid ((l.take k).all Pl.digit = true) ∧ Hid (Below w.heap.size w wr)) (fun i _ _ => n - (intOf i).toNat)
  case atStart => exact ⟨0, 0, by omega, rfl, rfl, Lib.hid rfl, Lib.hid rfl, Lib.hid (Below.refl _ _)⟩
  case round =>
    obtain ⟨k, x, hk, rfl, rfl, HX, HD, HB⟩ := hrel
    have hx : x < 10 ^ 10 := by rw [← HX.out]; exact Pl.num_lt _ 10 (by rw [List.length_take]; omega) HD.out
    have hx2 : x < 10000000000 := hx
    clear hx
    have kp0 : (0 : Int) ≤ (k : Int) := Int.natCast_nonneg _
    by_cases hlt : k < n
    · have kp1 : (k : Int) < n := by omega
      obtain ⟨b, e1, e2⟩ := byte_at (s := s) (k := k) (by omega)
      rw [← HLL.out] at e1
      have E1 := Lib.hid e1
      clear e1
      obtain ⟨y, hy⟩ : ∃ y, b.toNat = y := ⟨_, rfl⟩
      have y9 : y < 256 := by rw [← hy]; exact UInt8.toNat_lt _
      have HY := Lib.hid hy
      by_cases c1 : y < 48
      case pos =>
        have c1i : (y : Int) < 48 := by omega
        obtain rfl : rt = (0, false) := by rw [← HR.out]; exact Pl.parse_undig E1.out (by unfold Pl.digit; rw [HY.out]; simp; omega)
        go_wp2_with fail
        go_ret2
        exact ⟨rfl, HB.out⟩
      have c1i : ¬ (y : Int) < 48 := by omega
      by_cases c2 : 57 < y
      case pos =>
        have c2i : (57 : Int) < y := by omega
        obtain rfl : rt = (0, false) := by rw [← HR.out]; exact Pl.parse_undig E1.out (by unfold Pl.digit; rw [HY.out]; simp; omega)
        go_wp2_with fail
        go_ret2
        exact ⟨rfl, HB.out⟩
      have c2i : ¬ (57 : Int) < y := by omega
      have hdg : Pl.digit b = true := by unfold Pl.digit; rw [HY.out]; simp; omega
      have hnum := Pl.num_take E1.out
      rw [HX.out, HY.out] at hnum
      have hall := Pl.all_take_snoc' E1.out
      rw [HD.out, hdg] at hall
      obtain ⟨x2, h2⟩ : ∃ x2, 10 * x + (y - 48) = x2 := ⟨_, rfl⟩
      rw [h2] at hnum
      have HN := Lib.hid hnum
      have HA := Lib.hid hall
      clear hnum hall hdg
      have m0 : IntKind.i64.wrap (y : Int) = (y : Int) := IntWalk.i64_in _ ⟨by omega, by omega⟩
      have m1 : IntKind.i64.wrap (10 * (x : Int)) = 10 * (x : Int) := IntWalk.i64_in _ ⟨by omega, by omega⟩
      have m2 : IntKind.i64.wrap (10 * (x : Int) + (y : Int)) = 10 * (x : Int) + (y : Int) := IntWalk.i64_in _ ⟨by omega, by omega⟩
      have m3 : IntKind.i64.wrap (10 * (x : Int) + (y : Int) - 48) = 10 * (x : Int) + (y : Int) - 48 := IntWalk.i64_in _ ⟨by omega, by omega⟩
      have m4 : 10 * (x : Int) + (y : Int) - 48 = (x2 : Int) := by omega
      have H4 := Lib.hid m4
      clear m4 h2
      go_wp2_with fail
      go_roundw
      case rel => exact ⟨k + 1, x2, by omega, by go_num, by rw [← H4.out], HN, HA, HB⟩
      case measure => simp [intOf]; omega
    · obtain rfl : k = n := by omega
      have htk : l.take k = l := List.take_of_length_le (by rw [HL.out]; exact Nat.le_refl _)
      have hxn := HX.out
      have hal := HD.out
      rw [htk] at hxn hal
      have HXN := Lib.hid hxn
      have HAL := Lib.hid hal
      clear hxn hal htk
      by_cases c1 : 1000000000 < x
      case pos =>
        have c1i : (1000000000 : Int) < x := by omega
        obtain rfl : rt = (0, false) := by rw [← HR.out]; exact Pl.parse_no (.inl (by rw [HXN.out]; exact c1))
        go_wp2_with fail
        go_ret2
        exact ⟨rfl, HB.out⟩
      have c1i : ¬ (1000000000 : Int) < x := by omega
      by_cases c2 : Lib.itoa (x : Int) = l
      case neg =>
        have hbq : (Lib.itoa (x : Int) == l) = false := bytes_beq (by simp [c2])
        obtain rfl : rt = (0, false) := by rw [← HR.out]; exact Pl.parse_no (.inr (by rw [HXN.out]; exact c2))
        clear c2
        go_wp2_with (go_at_call 18; ((with_reducible refine (specFormat (x : Int) (by omega) (by omega) _).mono ?_)); rintro e9 w9 ⟨rfl, hb9⟩; have B9 := Lib.hid hb9; clear hb9)
        go_ret2
        exact ⟨rfl, later HB.out B9.out⟩
      obtain rfl : rt = ((x : Int), true) := by rw [← HR.out]; exact Pl.parse_good (by omega) (by omega) c2 (by rw [HL.out]; omega)
      have hbq : (Lib.itoa (x : Int) == l) = true := bytes_beq (by simp [c2])
      clear c2
      go_wp2_with (go_at_call 18; ((with_reducible refine (specFormat (x : Int) (by omega) (by omega) _).mono ?_)); rintro e9 w9 ⟨rfl, hb9⟩; have B9 := Lib.hid hb9; clear hb9)
      go_ret2
      exact ⟨rfl, later HB.out B9.out⟩
set_option maxRecDepth 100000 in
set_option maxHeartbeats 4000000 in
theorem implParse (s : ByteArray) (w : World) (hs : s.size ≤ 9223372036854775807) (hw : Ready w) : Calls Tryd.prog 16 #[.string s] w fun e w' => e = .returned (.tuple #[.int .i64 (Pl.parseUint s.data.toList).1, .bool (Pl.parseUint s.data.toList).2]) ∧ Below w.heap.size w w' := by
  have HW := Lib.hid hw
  clear hw
  have hl := size_list s
  have hsl := ByteArray.toList_eq s
  obtain ⟨l, hll⟩ : ∃ l, l = s.data.toList := ⟨_, rfl⟩
  rw [← hll] at hl hsl ⊢
  obtain ⟨n, hn⟩ : ∃ n, s.size = n := ⟨_, rfl⟩
  rw [hn] at hs hl
  have HLL := Lib.hid hll
  have HL := Lib.hid hl
  clear hll hl
  obtain ⟨rt, hrt⟩ : ∃ rt, Pl.parseUint l = rt := ⟨_, rfl⟩
  rw [hrt]
  have HR := Lib.hid hrt
  clear hrt
  by_cases hbig : 10 < n
  · obtain rfl : rt = (0, false) := by rw [← HR.out]; exact Pl.parse_long (by rw [HL.out]; exact hbig)
    have hb : (10 : Int) < n := by omega
    go_enter Tryd.func16, Tryd.ntmps16
    go_wp2_with fail
    go_ret2
    exact ⟨rfl, Below.refl _ _⟩
  have hb : ¬ (10 : Int) < n := by omega
  rcases hat : Lib.atoiAll l with v | _ | _
  rotate_left
  · skip
    obtain rfl : rt = (0, false) := by rw [← HR.out]; exact Pl.parse_bad fun v h => by rw [hat] at h; cases h
    have HAT := Lib.hid hat
    clear hat
    obtain ⟨tp, p, hv⟩ := HW.out.2.2
    have HV := Lib.hid hv
    clear hv
    go_enter Tryd.func16, Tryd.ntmps16
    go_wp2_with fail
    refine (Tryd.strconv_Atoi_bad_var s (by omega) (fun v h => by rw [← HLL.out, HAT.out] at h; cases h) (fun h => by rw [← HLL.out, HAT.out] at h; cases h) tp p _ HV.out).mono ?_
    rintro e w1 ⟨N, rfl, _, _, hb1⟩
    have B1 := Lib.hid hb1
    clear hb1
    go_wp2_with fail
    go_ret2
    exact ⟨rfl, B1.out⟩
  · skip
    obtain rfl : rt = (0, false) := by rw [← HR.out]; exact Pl.parse_bad fun v h => by rw [hat] at h; cases h
    have HAT := Lib.hid hat
    clear hat
    obtain ⟨tp, p, hv⟩ := HW.out.2.1
    have HV := Lib.hid hv
    clear hv
    go_enter Tryd.func16, Tryd.ntmps16
    go_wp2_with fail
    refine (Tryd.strconv_Atoi_range_var s (by omega) (by rw [← HLL.out]; exact HAT.out) tp p _ HV.out).mono ?_
    rintro e w1 ⟨N, rfl, _, _, hb1⟩
    have B1 := Lib.hid hb1
    clear hb1
    go_wp2_with fail
    go_ret2
    exact ⟨rfl, B1.out⟩
  · skip
    have HAT := Lib.hid hat
    clear hat
    by_cases c1 : v < 0
    case pos =>
      obtain rfl : rt = (0, false) := by rw [← HR.out]; exact Pl.parse_bad fun v2 h h2 h3 h4 => by rw [HAT.out] at h; injection h with h; subst h; omega
      go_enter Tryd.func16, Tryd.ntmps16
      go_wp2_with fail
      refine (Tryd.strconv_Atoi_ok s (by omega) v (by rw [← HLL.out]; exact HAT.out) _).mono ?_
      rintro e w1 ⟨rfl, hb1⟩
      have B1 := Lib.hid (below_bytes _ _ s hb1)
      clear hb1
      have HT1 := Lib.hid (pow_below HW.out.1 B1.out)
      go_wp2_with fail
      go_ret2
      exact ⟨rfl, B1.out⟩
    by_cases c2 : 1000000000 < v
    case pos =>
      obtain rfl : rt = (0, false) := by rw [← HR.out]; exact Pl.parse_bad fun v2 h h2 h3 h4 => by rw [HAT.out] at h; injection h with h; subst h; omega
      go_enter Tryd.func16, Tryd.ntmps16
      go_wp2_with fail
      refine (Tryd.strconv_Atoi_ok s (by omega) v (by rw [← HLL.out]; exact HAT.out) _).mono ?_
      rintro e w1 ⟨rfl, hb1⟩
      have B1 := Lib.hid (below_bytes _ _ s hb1)
      clear hb1
      have HT1 := Lib.hid (pow_below HW.out.1 B1.out)
      go_wp2_with fail
      go_ret2
      exact ⟨rfl, B1.out⟩
    by_cases c3 : Lib.itoa v = l
    case neg =>
      have hbq : (Lib.itoa v == l) = false := bytes_beq (by simp [c3])
      obtain rfl : rt = (0, false) := by rw [← HR.out]; exact Pl.parse_bad fun v2 h h2 h3 h4 => by rw [HAT.out] at h; injection h with h; subst h; exact c3 h4
      clear c3
      go_enter Tryd.func16, Tryd.ntmps16
      go_wp2_with fail
      refine (Tryd.strconv_Atoi_ok s (by omega) v (by rw [← HLL.out]; exact HAT.out) _).mono ?_
      rintro e w1 ⟨rfl, hb1⟩
      have B1 := Lib.hid (below_bytes _ _ s hb1)
      clear hb1
      have HT1 := Lib.hid (pow_below HW.out.1 B1.out)
      go_wp2_with (go_at_call 31; ((with_reducible refine (Tryd.strconv_Itoa v (by omega) (by omega) _ HT1.out).mono ?_)); rintro e9 w9 ⟨rfl, k9, os9, hw9⟩; have B9 : Hid (Below w1.heap.size w1 w9) := Lib.hid (by rw [hw9]; exact Lib.below_grow w1.heap.size w1 (Nat.le_refl _) k9 os9); clear hw9)
      go_ret2
      exact ⟨rfl, later B1.out B9.out⟩
    obtain rfl : rt = (v, true) := by rw [← HR.out]; exact Pl.parse_good (by omega) (by omega) c3 (by rw [HL.out]; omega)
    have hbq : (Lib.itoa v == l) = true := bytes_beq (by simp [c3])
    clear c3
    go_enter Tryd.func16, Tryd.ntmps16
    go_wp2_with fail
    refine (Tryd.strconv_Atoi_ok s (by omega) v (by rw [← HLL.out]; exact HAT.out) _).mono ?_
    rintro e w1 ⟨rfl, hb1⟩
    have B1 := Lib.hid (below_bytes _ _ s hb1)
    clear hb1
    have HT1 := Lib.hid (pow_below HW.out.1 B1.out)
    go_wp2_with (go_at_call 31; ((with_reducible refine (Tryd.strconv_Itoa v (by omega) (by omega) _ HT1.out).mono ?_)); rintro e9 w9 ⟨rfl, k9, os9, hw9⟩; have B9 : Hid (Below w1.heap.size w1 w9) := Lib.hid (by rw [hw9]; exact Lib.below_grow w1.heap.size w1 (Nat.le_refl _) k9 os9); clear hw9)
    go_ret2
    exact ⟨rfl, later B1.out B9.out⟩
end Go.Proofs.YtepjjlaipindnaaDoor
