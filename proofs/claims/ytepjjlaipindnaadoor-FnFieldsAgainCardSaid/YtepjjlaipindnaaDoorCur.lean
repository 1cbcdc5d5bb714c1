/- Contracts of the laws' draws: the cursor over the bytes that came in; every draw is some number in its range. -/
import Derived.Test.YtepjjlaipindnaaDoorBase
import Derived.Test.YtepjjlaipindnaaDoorOwn
import Derived.Test.YtepjjlaipindnaaDoorBox
import Derived.Deep.QuietTactic
import Derived.BigQuiet
namespace Go.Proofs.YtepjjlaipindnaaDoor.Pl
theorem and255_bd (a : Int) : 0 ≤ bits .and .i64 a 255 ∧ bits .and .i64 a 255 ≤ 255 := by
  show 0 ≤ IntKind.i64.wrap ((BitVec.ofInt 64 a &&& BitVec.ofInt 64 255).toNat : Int) ∧ IntKind.i64.wrap ((BitVec.ofInt 64 a &&& BitVec.ofInt 64 255).toNat : Int) ≤ 255
  have h : (BitVec.ofInt 64 a &&& BitVec.ofInt 64 255).toNat ≤ 255 := by
    rw [BitVec.toNat_and]
    exact Nat.and_le_right
  rw [IntKind.wrap_i64]
  omega
theorem and30_bd (a : Int) : 0 ≤ bits .and .i64 a 1073741823 ∧ bits .and .i64 a 1073741823 ≤ 1073741823 := by
  show 0 ≤ IntKind.i64.wrap ((BitVec.ofInt 64 a &&& BitVec.ofInt 64 1073741823).toNat : Int) ∧ IntKind.i64.wrap ((BitVec.ofInt 64 a &&& BitVec.ofInt 64 1073741823).toNat : Int) ≤ 1073741823
  have h : (BitVec.ofInt 64 a &&& BitVec.ofInt 64 1073741823).toNat ≤ 1073741823 := by
    rw [BitVec.toNat_and]
    exact Nat.and_le_right
  rw [IntKind.wrap_i64]
  omega
end Go.Proofs.YtepjjlaipindnaaDoor.Pl
namespace Go.Proofs.YtepjjlaipindnaaDoor
open Go.RowKit

/-- The bytes that came in, and a cursor over them in block g. -/
def Cursor (w : World) (g : Nat) (a : Option Addr) (len cap : Nat) (zs : List Int) : Prop :=
  IsRow .u8 w a len cap zs ∧ len ≤ 1048576 ∧ (∀ x, a = some x → 0 < cap → x.block < g) ∧
  ∃ (i : Nat) (h : Int), i ≤ len ∧ w.heap[g]? = some (.cells #[.slice a len cap, .int .i64 i, .int .i64 h] 54 (0, 0))

theorem isRow_keep {k : IntKind} {w w' : World} {a : Option Addr} {len cap : Nat} {zs : List Int} (h : IsRow k w a len cap zs) (hk : ∀ x, a = some x → 0 < cap → w'.heap[x.block]? = w.heap[x.block]?) : IsRow k w' a len cap zs := by
  rcases h with ⟨rfl, rfl, rfl, rfl⟩ | ⟨x, rfl, hl, hm, hz, hcell, hwz⟩
  · exact .inl ⟨rfl, rfl, rfl, rfl⟩
  · refine .inr ⟨x, rfl, hl, hm, hz, fun i hi => ?_, hwz⟩
    rw [← hcell i hi]
    refine World.cell?_of_block ?_
    have e : (x.add i).block = x.block := by unfold Addr.add; split <;> rfl
    rw [e]
    exact hk x rfl (by omega)
theorem isRow_lt {k : IntKind} {w : World} {a : Option Addr} {len cap : Nat} {zs : List Int} (h : IsRow k w a len cap zs) : ∀ x, a = some x → 0 < cap → x.block < w.heap.size := by
  rintro x rfl hc
  rcases h with ⟨h, _⟩ | ⟨x', h, hl, hm, hz, hcell, hwz⟩
  · cases h
  · injection h with h
    subst h
    have := World.block_lt_of_cell? _ _ (hcell 0 (by omega))
    simpa [Addr.add] using this
theorem Cursor.keep {w w' : World} {g : Nat} {a : Option Addr} {len cap : Nat} {zs : List Int} (h : Cursor w g a len cap zs) (hk : ∀ k, k ≤ g → w'.heap[k]? = w.heap[k]?) : Cursor w' g a len cap zs := by
  obtain ⟨h1, h2, h3, i, x, h4, h5⟩ := h
  exact ⟨isRow_keep h1 fun y hy hc => hk _ (Nat.le_of_lt (h3 y hy hc)), h2, h3, i, x, h4, by rw [hk g (Nat.le_refl _)]; exact h5⟩
theorem Cursor.below {w w' : World} {g B : Nat} {a : Option Addr} {len cap : Nat} {zs : List Int} (h : Cursor w g a len cap zs) (hb : Below B w w') (hB : g < B) : Cursor w' g a len cap zs := h.keep fun k hk => hb.block k (by omega)
theorem Cursor.lt {w : World} {g : Nat} {a : Option Addr} {len cap : Nat} {zs : List Int} (h : Cursor w g a len cap zs) : g < w.heap.size := by
  obtain ⟨_, _, _, i, x, _, h5⟩ := h
  exact (Array.getElem?_eq_some_iff.1 h5).1
/-- What a draw leaves: a result that P tells of, the cursor moved on, nothing else written. -/
def Drawn (P : Value → Prop) (w : World) (g : Nat) (a : Option Addr) (len cap : Nat) (zs : List Int) (e : Ending) (w' : World) : Prop :=
  ∃ v, P v ∧ e = .returned v ∧ Cursor w' g a len cap zs ∧ Out g (g + 1) w w'
def IntIn (lo hi : Int) (v : Value) : Prop := ∃ n : Int, lo ≤ n ∧ n ≤ hi ∧ v = .int .i64 n
theorem Drawn.mono {P P' : Value → Prop} {w : World} {g : Nat} {a : Option Addr} {len cap : Nat} {zs : List Int} {e : Ending} {w' : World} (h : Drawn P w g a len cap zs e w') (hp : ∀ v, P v → P' v) : Drawn P' w g a len cap zs e w' := by
  obtain ⟨v, h1, h2⟩ := h
  exact ⟨v, hp v h1, h2⟩
/-- The row's cell behind a cursor's place. -/
theorem isRow_at {w : World} {a : Option Addr} {len cap : Nat} {zs : List Int} {i : Nat} (h : IsRow .u8 w a len cap zs) (hi : i < len) : ∃ b off z, a = some ⟨b, off, none⟩ ∧ b < w.heap.size ∧ 0 ≤ z ∧ z ≤ 255 ∧ w.cell? ⟨b, off + i, none⟩ = some (.int .u8 z) := by
  obtain ⟨h1, h2, _, h4⟩ := Arg.of_row h
  obtain ⟨b, off, e, hb, hc⟩ := h1 (by omega)
  have hi' : i < (zs.take len).length := by omega
  have hz := h4 _ (List.getElem_mem hi')
  have hbd := bounds_u8 hz
  exact ⟨b, off, _, e, hb, hbd.1, hbd.2, hc i _ (List.getElem?_eq_getElem hi')⟩
theorem isRow_cap {w : World} {a : Option Addr} {len cap : Nat} {zs : List Int} {i : Nat} (h : IsRow .u8 w a len cap zs) (hi : i < len) : 0 < cap := by
  rcases h with ⟨_, rfl, _⟩ | ⟨_, _, hl, _⟩
  · omega
  · omega
/-- The cursor's block, rewritten. -/
theorem Cursor.turned {w w' : World} {g : Nat} {a : Option Addr} {len cap : Nat} {zs : List Int} {i : Nat} {h : Int} (hc : Cursor w g a len cap zs) (ho : ∀ k, k < g → w'.heap[k]? = w.heap[k]?) (hi : i ≤ len)
    (hb : w'.heap[g]? = some (.cells #[.slice a len cap, .int .i64 i, .int .i64 h] 54 (0, 0))) : Cursor w' g a len cap zs := by
  obtain ⟨h1, h2, h3, _⟩ := hc
  exact ⟨isRow_keep h1 fun y hy hc => ho _ (h3 y hy hc), h2, h3, i, h, hi, hb⟩
theorem block_set (w : World) (g j : Nat) (cs : Array Value) (t : TypeId) (u : Value) (h : w.heap[g]? = some (.cells cs t (0, 0))) : (w.setCell ⟨g, j, none⟩ u).heap[g]? = some (.cells (cs.setIfInBounds j u) t (0, 0)) := by
  simp [World.setCell, Array.getElem?_modify, h]
set_option maxHeartbeats 2000000 in
theorem l01Byte_any (g : Nat) (a : Option Addr) (len cap : Nat) (zs : List Int) (w : World) (hc : Cursor w g a len cap zs) : Calls Tryd.prog 38 #[.pointer (some ⟨g, 0, none⟩)] w (Drawn (IntIn 0 255) w g a len cap zs) := by
  have HC := Lib.hid hc
  obtain ⟨h1, h2, h3, i, h, h4, h5⟩ := hc
  have H1 := Lib.hid h1
  have H3 := Lib.hid h3
  have HB := Lib.hid h5
  have c0 : w.cell? ⟨g, 0, none⟩ = some (.slice a len cap) := by rw [cell_of_row w g 0 _ _ _ h5]; rfl
  have c1 : w.cell? ⟨g, 1, none⟩ = some (.int .i64 i) := by rw [cell_of_row w g 1 _ _ _ h5]; rfl
  have c2 : w.cell? ⟨g, 2, none⟩ = some (.int .i64 h) := by rw [cell_of_row w g 2 _ _ _ h5]; rfl
  have f1 : w.frozen? ⟨g, 1, none⟩ = false := frozen_of_row w g 1 _ _ h5
  have f2 : w.frozen? ⟨g, 2, none⟩ = false := frozen_of_row w g 2 _ _ h5
  clear h1 h3 h5
  by_cases hlt : i < len
  · obtain ⟨b, off, z, rfl, hb, z0, z1, cz⟩ := isRow_at H1.out hlt
    have hbg : b ≠ g := by have := H3.out _ rfl (isRow_cap H1.out hlt); simp at this; omega
    have hli : (i : Int) < (len : Int) := by omega
    go_enter Tryd.func38, Tryd.ntmps38
    go_wp2_with fail
    go_quiet (fail)
    go_wp2_with fail
    go_quiet (fail)
    go_wp2_with fail
    go_quiet (fail)
    go_wp2_with fail
    go_ret
    have hB := block_set _ g 1 _ _ (.int .i64 ((i : Int) + 1)) (block_set w g 2 _ _ (.int .i64 (wrap64 (wrap64 (h * 6364136223846793005) + 1442695040888963407))) HB.out)
    exact ⟨_, ⟨_, (Pl.and255_bd _).1, (Pl.and255_bd _).2, rfl⟩, rfl, Cursor.turned (i := i + 1) HC.out (fun k hk => (Below.heap_setCell _ ⟨g, 1, none⟩ _ k (by simp; omega)).trans (Below.heap_setCell w ⟨g, 2, none⟩ _ k (by simp; omega))) (by omega) hB, by repeat (first | with_reducible exact Out.refl _ _ _ | (with_reducible refine Out.drewN ?_ _) | (with_reducible refine Out.drew ?_) | (with_reducible refine Out.setCell ?_ (by simp) (by simp) _))⟩
  · have hli : ¬ (i : Int) < (len : Int) := by omega
    go_enter Tryd.func38, Tryd.ntmps38
    go_wp2_with fail
    go_quiet (fail)
    go_wp2_with fail
    go_quiet (fail)
    go_wp2_with fail
    go_ret
    exact ⟨_, ⟨_, (Pl.and255_bd _).1, (Pl.and255_bd _).2, rfl⟩, rfl, Cursor.turned HC.out (fun k hk => Below.heap_setCell w ⟨g, 2, none⟩ _ k (by simp; omega)) h4 (block_set w g 2 _ _ _ HB.out), by repeat (first | with_reducible exact Out.refl _ _ _ | (with_reducible refine Out.drewN ?_ _) | (with_reducible refine Out.drew ?_) | (with_reducible refine Out.setCell ?_ (by simp) (by simp) _))⟩
theorem l01Below_any (g : Nat) (a : Option Addr) (len cap : Nat) (zs : List Int) (n : Int) (w : World) (hc : Cursor w g a len cap zs) (h1 : 1 ≤ n) (h2 : n ≤ 1000000000) : Calls Tryd.prog 26 #[.pointer (some ⟨g, 0, none⟩), .int .i64 n] w (Drawn (IntIn 0 (n - 1)) w g a len cap zs) := by
  have HC := Lib.hid hc
  clear hc
  by_cases h : n ≤ 256
  · go_enter Tryd.func26, Tryd.ntmps26
    go_wp2_with fail
    refine (l01Byte_any g a len cap zs _ HC.out).mono ?_
    rintro e w1 ⟨v, ⟨x, x0, x1, rfl⟩, rfl, C1, O1⟩
    have D1 := Lib.hid C1
    clear C1
    have hm : 0 ≤ x % n ∧ x % n < n := ⟨Int.emod_nonneg _ (by omega), Int.emod_lt_of_pos _ (by omega)⟩
    obtain ⟨m0, m1⟩ := hm
    go_wp2_with fail
    go_ret
    exact ⟨_, ⟨_, m0, by omega, rfl⟩, rfl, D1.out, O1⟩
  · go_enter Tryd.func26, Tryd.ntmps26
    go_wp2_with fail
    refine (l01Byte_any g a len cap zs _ HC.out).mono ?_
    rintro e w1 ⟨v, ⟨x, x0, x1, rfl⟩, rfl, C1, O1⟩
    have D1 := Lib.hid C1
    clear C1
    go_wp2_with fail
    refine (l01Byte_any g a len cap zs _ D1.out).mono ?_
    rintro e w2 ⟨v, ⟨y, y0, y1, rfl⟩, rfl, C2, O2⟩
    have D2 := Lib.hid C2
    clear C2
    go_wp2_with fail
    refine (l01Byte_any g a len cap zs _ D2.out).mono ?_
    rintro e w3 ⟨v, ⟨z, z0, z1, rfl⟩, rfl, C3, O3⟩
    have D3 := Lib.hid C3
    clear C3
    go_wp2_with fail
    refine (l01Byte_any g a len cap zs _ D3.out).mono ?_
    rintro e w4 ⟨v, ⟨q, q0, q1, rfl⟩, rfl, C4, O4⟩
    have D4 := Lib.hid C4
    clear C4
    have hm : 0 ≤ (x * 16777216 + y * 65536 + z * 256 + q) % n ∧ (x * 16777216 + y * 65536 + z * 256 + q) % n < n := ⟨Int.emod_nonneg _ (by omega), Int.emod_lt_of_pos _ (by omega)⟩
    obtain ⟨m0, m1⟩ := hm
    go_wp2_with fail
    go_ret
    exact ⟨_, ⟨_, m0, by omega, rfl⟩, rfl, D4.out, ((O1.trans O2).trans O3).trans O4⟩
def IsBool (v : Value) : Prop := ∃ b : Bool, v = .bool b
theorem l01Once_any (g : Nat) (a : Option Addr) (len cap : Nat) (zs : List Int) (n : Int) (w : World) (hc : Cursor w g a len cap zs) (h1 : 1 ≤ n) (h2 : n ≤ 1000000000) : Calls Tryd.prog 27 #[.pointer (some ⟨g, 0, none⟩), .int .i64 n] w (Drawn IsBool w g a len cap zs) := by
  have HC := Lib.hid hc
  clear hc
  go_enter Tryd.func27, Tryd.ntmps27
  go_wp2_with fail
  refine (l01Below_any g a len cap zs _ _ HC.out h1 h2).mono ?_
  rintro e w1 ⟨v, ⟨x, x0, x1, rfl⟩, rfl, C1, O1⟩
  have D1 := Lib.hid C1
  clear C1
  go_wp2_with fail
  go_ret
  exact ⟨_, ⟨_, rfl⟩, rfl, D1.out, O1⟩
theorem cursor_new {w : World} {a : Option Addr} {len cap : Nat} {zs : List Int} (hr : IsRow .u8 w a len cap zs) (hl : len ≤ 1048576) (h : Int) : Cursor (w.alloc (.cells #[.slice a len cap, .int .i64 0, .int .i64 h] 54)) w.heap.size a len cap zs :=
  ⟨isRow_keep hr fun y hy hc => Below.heap_alloc _ _ _ (isRow_lt hr y hy hc), hl, isRow_lt hr, 0, h, Nat.zero_le _, heap_alloc_new w _⟩
/-- The cursor is laid. -/
def NewCur (w : World) (a : Option Addr) (len cap : Nat) (zs : List Int) (e : Ending) (w' : World) : Prop := ∃ g, e = .returned (.pointer (some ⟨g, 0, none⟩)) ∧ g = w.heap.size ∧ Cursor w' g a len cap zs ∧ Below w.heap.size w w' ∧ w'.heap.size = w.heap.size + 1
set_option maxHeartbeats 1000000 in
set_option maxRecDepth 100000 in
theorem l01New_any (a : Option Addr) (len cap : Nat) (zs : List Int) (w : World) (hr : IsRow .u8 w a len cap zs) (hl : len ≤ 1048576) : Calls Tryd.prog 25 #[.slice a len cap] w (NewCur w a len cap zs) := by
  have HR := Lib.hid hr
  clear hr
  go_enter Tryd.func25, Tryd.ntmps25
  go_wp2_with fail
  go_loop [3, 4] (fun v i => ∃ (k : Nat) (h : Int), k ≤ len ∧ i = .int .i64 k ∧ v = .int .i64 h ∧ 0 ≤ h ∧ h ≤ 2147483648) (fun _ i => len - (intOf i).toNat)
  case atStart => exact ⟨0, 33137 + len, by omega, rfl, rfl, by omega, by omega⟩
  case round =>
    obtain ⟨k, h, hk, rfl, rfl, h0, h1⟩ := hrel
    by_cases hlt : k < len
    · by_cases h4 : k < 4000
      · obtain ⟨b, off, z, rfl, hb, z0, z1, cz⟩ := isRow_at HR.out hlt
        go_wp2_with fail
        go_round
        case rel => exact ⟨k + 1, _, by omega, by go_num, rfl, (Pl.and30_bd _).1, by have := (Pl.and30_bd (h * 131 + z + 7)).2; omega⟩
        case measure => simp [intOf]; omega
      · go_wp2_with fail
        go_ret
        refine ⟨w.heap.size, rfl, rfl, ?_, by go_grown, by simp⟩
        exact cursor_new HR.out hl h
    · go_wp2_with fail
      go_ret
      refine ⟨w.heap.size, rfl, rfl, ?_, by go_grown, by simp⟩
      exact cursor_new HR.out hl h
end Go.Proofs.YtepjjlaipindnaaDoor
