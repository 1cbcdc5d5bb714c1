/- Contracts over texts: EncodeHex of both sides. -/
import Derived.Test.YtepjjlaipindnaaDoorChecked
import Derived.Test.YtepjjlaipindnaaDoorTx0
import Derived.Test.YtepjjlaipindnaaDoorOwn
import Derived.Test.YtepjjlaipindnaaDoorOrd
import Derived.Deep.AppendLies
import Derived.Laws.IdiomStrings
import Derived.Laws.AppendOwn
import Derived.BigQuiet
namespace Go.Proofs.YtepjjlaipindnaaDoor
open Go.RowKit Go.Instr
set_option linter.unusedVariables false
set_option linter.unusedSimpArgs false
theorem Tryd.infoByte : (Tryd.prog.info? 5).map (fun i => (i.zero, i.size, i.bytes)) = some (some (.int .u8 0), 1, 1) := by kernel_rfl
/-- A row of bytes of the program's own, from block lo on. -/
def BRow (w : World) (lo : Nat) (v : Value) (l : List UInt8) : Prop := w.ownsRow lo 5 1 v l.length (bcells l)
/-- Its text. -/
theorem text_of_row {w : World} {lo g m cap : Nat} {l : List UInt8} (h : BRow w lo (.slice (some ⟨g, 0, none⟩) m cap) l) (hm : l.length = m) : (convert 22 9 (.slice (some ⟨g, 0, none⟩) m cap)).run Tryd.prog w = .ok (.string ⟨l.toArray⟩) w := by
  subst hm
  refine run_convert_bytes_back w _ _ 5 ⟨g, 0, none⟩ cap l Tryd.underlying22 Tryd.underlying5 Tryd.underlying9 fun j hj => ?_
  have h2 := World.ownsRow.cellAt h j (by omega)
  rw [show (⟨g, 0, none⟩ : Addr).add j = ⟨g, j, none⟩ by unfold Addr.add; split <;> simp_all]
  rw [h2, bcells, List.getElem?_map, List.getElem?_eq_getElem hj]
  rfl
theorem rem_wrap (x : Nat) (h : x < 256) : IntKind.u8.wrap (x : Int) = (x : Int) := by
  exact IntWalk.u8_in _ ⟨by omega, by omega⟩
/-- What an append leaves: all blocks below 'base' are as they were. -/
theorem grown_keep {w w' : World} {v : Value} {base : Nat} {e : TypeId} {size n : Nat} {xs : List Value} (hown : w.ownsRow base e size v n xs) (hg : w.grownBy w' v.ownBlock) (hb : base ≤ w.heap.size) : Below base w w' :=
  ⟨hg.os, hg.tape, hg.output, hg.size, fun k hk => hg.block k (by omega) (fun h => by have := hown.lt k h.symm; omega)⟩
theorem ownsRow_drew {w : World} {base : Nat} {e : TypeId} {size n : Nat} {v : Value} {xs : List Value} (h : w.ownsRow base e size v n xs) : w.drew.ownsRow base e size v n xs := h
theorem figure (x : Nat) (w : World) (h : x < 16) : Calls Tryd.prog 34 #[.int .i64 x] w fun e w' => e = .returned (.int .u8 ((Pl.fig x).toNat : Int)) ∧ w = w' := by
  rw [Pl.fig_nat h]
  unfold Pl.dig
  go_enter Tryd.func34, Tryd.ntmps34
  by_cases hx : x < 10
  · have hx2 : (x : Int) < 10 := by omega
    have u1 : IntKind.i64.wrap (48 + (x : Int)) = 48 + (x : Int) := IntWalk.i64_in _ ⟨by omega, by omega⟩
    have u2 : IntKind.u8.wrap (48 + (x : Int)) = 48 + (x : Int) := IntWalk.u8_in _ ⟨by omega, by omega⟩
    rw [if_pos hx]
    go_wp2_with fail
    go_ret
    exact ⟨by (try rw [u2]); congr 1, rfl⟩
  · have hx2 : ¬ (x : Int) < 10 := by omega
    have u1 : IntKind.i64.wrap (97 + (x : Int)) = 97 + (x : Int) := IntWalk.i64_in _ ⟨by omega, by omega⟩
    have u2 : IntKind.i64.wrap (97 + (x : Int) - 10) = 97 + (x : Int) - 10 := IntWalk.i64_in _ ⟨by omega, by omega⟩
    have u3 : IntKind.u8.wrap (97 + (x : Int) - 10) = 97 + (x : Int) - 10 := IntWalk.u8_in _ ⟨by omega, by omega⟩
    rw [if_neg hx]
    go_wp2_with fail
    go_ret
    exact ⟨by show Ending.returned (Value.int .u8 (97 + (x : Int) - 10)) = Ending.returned (Value.int .u8 ((87 + x : Nat) : Int)); congr 2; omega, rfl⟩
def digits : ByteArray := ⟨#[48, 49, 50, 51, 52, 53, 54, 55, 56, 57, 97, 98, 99, 100, 101, 102]⟩
theorem digit_at (p : Nat) (hp : p < 16) : ∀ h, (ByteArray.mk #[48, 49, 50, 51, 52, 53, 54, 55, 56, 57, 97, 98, 99, 100, 101, 102])[p]'h = Pl.fig p := by
  have h16 : ∀ p : Fin 16, ∀ h, (ByteArray.mk #[48, 49, 50, 51, 52, 53, 54, 55, 56, 57, 97, 98, 99, 100, 101, 102])[p.1]'h = Pl.fig p.1 := by decide
  exact h16 ⟨p, hp⟩
theorem figureI (y : Int) (x : Nat) (w : World) (hy : y = (x : Int)) (h : x < 16) : Calls Tryd.prog 34 #[.int .i64 y] w fun e w' => e = .returned (.int .u8 ((Pl.fig x).toNat : Int)) ∧ w = w' := by
  subst hy
  exact figure x w h
set_option maxHeartbeats 4000000 in
theorem implEncode (s : ByteArray) (w : World) (hs : s.size ≤ 9223372036854775807) : Calls Tryd.prog 23 #[.string s] w fun e w' => e = .returned (.tuple #[.string ⟨(Pl.encodeHex s.data.toList).1.toArray⟩, .bool (Pl.encodeHex s.data.toList).2]) ∧ Below w.heap.size w w' := by
  have hl := size_list s
  obtain ⟨l, hll⟩ : ∃ l, l = s.data.toList := ⟨_, rfl⟩
  rw [← hll] at hl ⊢
  obtain ⟨n, hn⟩ : ∃ n, s.size = n := ⟨_, rfl⟩
  rw [hn] at hs hl
  obtain ⟨i0, hi0, hz0, hz1, hz2⟩ := info_parts Tryd.infoByte
  have HLL := Lib.hid hll
  have HL := Lib.hid hl
  clear hll hl
  by_cases hbig : 20000 < n
  · have hp : Pl.encodeHex l = ([], false) := by unfold Pl.encodeHex; rw [if_pos (by rw [HL.out]; exact hbig)]
    rw [hp]
    have hb : (20000 : Int) < n := by omega
    go_enter Tryd.func23, Tryd.ntmps23
    go_wp2_with fail
    go_ret2
    exact ⟨rfl, Below.refl _ _⟩
  have hp : Pl.encodeHex l = (l.flatMap Pl.enc, true) := by unfold Pl.encodeHex; rw [if_neg (by rw [HL.out]; exact hbig)]
  rw [hp]
  have hb : ¬ (20000 : Int) < n := by omega
  go_enter Tryd.func23, Tryd.ntmps23
  have u2 : IntKind.i64.wrap (2 * (n : Int)) = 2 * (n : Int) := IntWalk.i64_in _ ⟨by omega, by omega⟩
  go_wp2_with (at_make; refine wpList_make_own _ rfl _ _ 22 rfl w.heap.size 5 i0 (.int .u8 0) 1 Tryd.underlying22 hi0 hz0 hz1 .i64 .i64 _ (2 * n) rfl rfl (by omega) (by rw [hz2]; omega) (by unfold maxLen; omega) (Nat.le_refl _) ?_; intro w1 hown hgrow; have X1 := Lib.hid hown; have B1 : Hid (Below w.heap.size w w1) := Lib.hid ⟨hgrow.os, hgrow.tape, hgrow.output, hgrow.size, fun k hk => hgrow.block k hk (by simp)⟩; clear hown hgrow)
  go_loopw [15, 4] (fun i v wr => ∃ (k g cap : Nat), k ≤ n ∧ i = .int .i64 k ∧ v = .slice (some ⟨g, 0, none⟩) (2 * k) cap ∧ Hid (BRow wr w.heap.size v (Pl.encTo l k)) ∧ Hid (Below w.heap.size w wr)) (fun i _ _ => n - (intOf i).toNat)
  case atStart => exact ⟨0, w.heap.size, 2 * n, by omega, rfl, rfl, Lib.hid X1.out, Lib.hid B1.out⟩
  case round =>
    obtain ⟨k, g, cap, hk, rfl, rfl, HO, HB⟩ := hrel
    have kp0 : (0 : Int) ≤ (k : Int) := Int.natCast_nonneg _
    by_cases hlt : k < n
    · have kp1 : (k : Int) < n := by omega
      obtain ⟨b, e1, e2⟩ := byte_at (s := s) (k := k) (by omega)
      rw [← HLL.out] at e1
      have E1 := Lib.hid e1
      clear e1
      obtain ⟨x, hx⟩ : ∃ x, b.toNat = x := ⟨_, rfl⟩
      have x9 : x < 256 := by rw [← hx]; exact UInt8.toNat_lt _
      have HX := Lib.hid hx
      have hlen := Pl.encTo_length l k (by rw [HL.out]; exact hk)
      have HLE := Lib.hid hlen
      clear hlen
      have t1 : (x : Int).tmod 16 = (x : Int) % 16 := Int.tmod_eq_emod_of_nonneg (by omega)
      have d0 : x / 16 < 16 := by omega
      have d1 : x % 16 < 16 := by omega
      clear t1
      obtain ⟨p, hp⟩ : ∃ p : Nat, x / 16 = p := ⟨_, rfl⟩
      have p9 : p < 16 := by omega
      have p1 : (x : Int) / 16 = (p : Int) := by omega
      have p2 : IntKind.u8.wrap (p : Int) = (p : Int) := IntWalk.u8_in _ ⟨by omega, by omega⟩
      have p3 : (p : Int) < 16 := by omega
      have p4 := digit_at p p9
      have p5 : (0 : Int) ≤ (p : Int) := by omega
      have HP := Lib.hid hp
      obtain ⟨q, hq⟩ : ∃ q : Nat, x % 16 = q := ⟨_, rfl⟩
      have q9 : q < 16 := by omega
      have q1 : (x : Int) % 16 = (q : Int) := by omega
      have q2 : IntKind.u8.wrap (q : Int) = (q : Int) := IntWalk.u8_in _ ⟨by omega, by omega⟩
      have q3 : (q : Int) < 16 := by omega
      have q4 := digit_at q q9
      have q5 : (0 : Int) ≤ (q : Int) := by omega
      have HQ := Lib.hid hq
      have t1 : (x : Int).tmod 16 = (q : Int) := by rw [Int.tmod_eq_emod_of_nonneg (by omega)]; exact q1
      have t2 : (x : Int).tdiv 16 = (p : Int) := by rw [Int.tdiv_eq_ediv_of_nonneg (by omega)]; exact p1
      clear d0 d1 hq
      go_wp2_with fail
      refine regionL (S := (fun w' => True)) (L := 14) (by kernel_rfl) ?_ (fun hHeld => ?_)
      · trivial
      refine takeL (i := 0) (oi := ?_) (v := ?_) ?_ (by kernel_rfl) (by kernel_rfl) (by kernel_rfl) (by kernel_rfl) ?_ (Or.inl ⟨?_, ?_⟩) (by assumption) ?_
      rotate_left 2
      · (simp only [List.getElem?_toArray, List.getElem?_cons_succ, List.getElem?_cons_zero]; rfl)
      · exact fun _ _ _ h => h
      · rfl
      · (intro w hSw; (try dsimp only at hSw); go_simp; (try with_reducible rfl))
      try simp only [Act.put, List.setIfInBounds_toArray, List.set_cons_zero, List.set_cons_succ]
      refine takeL (i := 1) (oi := ?_) (v := ?_) ?_ (by kernel_rfl) (by kernel_rfl) (by kernel_rfl) (by kernel_rfl) ?_ (Or.inl ⟨?_, ?_⟩) (by assumption) ?_
      rotate_left 2
      · (simp only [List.getElem?_toArray, List.getElem?_cons_succ, List.getElem?_cons_zero]; rfl)
      · exact fun _ _ _ h => h
      · rfl
      · (intro w hSw; (try dsimp only at hSw); go_simp; (try with_reducible rfl))
      try simp only [Act.put, List.setIfInBounds_toArray, List.set_cons_zero, List.set_cons_succ]
      refine takeL (i := 2) (oi := ?_) (v := ?_) ?_ (by kernel_rfl) (by kernel_rfl) (by kernel_rfl) (by kernel_rfl) ?_ (Or.inl ⟨?_, ?_⟩) (by assumption) ?_
      rotate_left 2
      · (simp only [List.getElem?_toArray, List.getElem?_cons_succ, List.getElem?_cons_zero]; rfl)
      · exact fun _ _ _ h => h
      · rfl
      · (intro w hSw; (try dsimp only at hSw); go_simp; (try with_reducible rfl))
      try simp only [Act.put, List.setIfInBounds_toArray, List.set_cons_zero, List.set_cons_succ]
      refine takeL (i := 3) (oi := ?_) (v := ?_) ?_ (by kernel_rfl) (by kernel_rfl) (by kernel_rfl) (by kernel_rfl) ?_ (Or.inl ⟨?_, ?_⟩) (by assumption) ?_
      rotate_left 2
      · (simp only [List.getElem?_toArray, List.getElem?_cons_succ, List.getElem?_cons_zero]; rfl)
      · exact fun _ _ _ h => h
      · rfl
      · (intro w hSw; (try dsimp only at hSw); go_simp; (try with_reducible rfl))
      try simp only [Act.put, List.setIfInBounds_toArray, List.set_cons_zero, List.set_cons_succ]
      refine takeL (i := 4) (oi := ?_) (v := ?_) ?_ (by kernel_rfl) (by kernel_rfl) (by kernel_rfl) (by kernel_rfl) ?_ (Or.inl ⟨?_, ?_⟩) (by assumption) ?_
      rotate_left 2
      · (simp only [List.getElem?_toArray, List.getElem?_cons_succ, List.getElem?_cons_zero]; rfl)
      · exact fun _ _ _ h => h
      · rfl
      · (intro w hSw; (try dsimp only at hSw); go_simp; (try with_reducible rfl))
      try simp only [Act.put, List.setIfInBounds_toArray, List.set_cons_zero, List.set_cons_succ]
      refine takeL (i := 5) (oi := ?_) (v := ?_) ?_ (by kernel_rfl) (by kernel_rfl) (by kernel_rfl) (by kernel_rfl) ?_ (Or.inl ⟨?_, ?_⟩) (by assumption) ?_
      rotate_left 2
      · (simp only [List.getElem?_toArray, List.getElem?_cons_succ, List.getElem?_cons_zero]; rfl)
      · exact fun _ _ _ h => h
      · rfl
      · (intro w hSw; (try dsimp only at hSw); go_simp; (try with_reducible rfl))
      try simp only [Act.put, List.setIfInBounds_toArray, List.set_cons_zero, List.set_cons_succ]
      refine takeL (i := 6) (oi := ?_) (v := ?_) ?_ (by kernel_rfl) (by kernel_rfl) (by kernel_rfl) (by kernel_rfl) ?_ (Or.inl ⟨?_, ?_⟩) (by assumption) ?_
      rotate_left 2
      · (simp only [List.getElem?_toArray, List.getElem?_cons_succ, List.getElem?_cons_zero]; rfl)
      · exact fun _ _ _ h => h
      · rfl
      · (intro w hSw; (try dsimp only at hSw); go_simp; (try with_reducible rfl))
      try simp only [Act.put, List.setIfInBounds_toArray, List.set_cons_zero, List.set_cons_succ]
      refine takeL (i := 7) (oi := ?_) (v := ?_) ?_ (by kernel_rfl) (by kernel_rfl) (by kernel_rfl) (by kernel_rfl) ?_ (Or.inl ⟨?_, ?_⟩) (by assumption) ?_
      rotate_left 2
      · (simp only [List.getElem?_toArray, List.getElem?_cons_succ, List.getElem?_cons_zero]; rfl)
      · exact fun _ _ _ h => h
      · rfl
      · (intro w hSw; (try dsimp only at hSw); go_simp; (try with_reducible rfl))
      try simp only [Act.put, List.setIfInBounds_toArray, List.set_cons_zero, List.set_cons_succ]
      refine takeL (i := 8) (oi := ?_) (v := ?_) ?_ (by kernel_rfl) (by kernel_rfl) (by kernel_rfl) (by kernel_rfl) ?_ (Or.inl ⟨?_, ?_⟩) (by assumption) ?_
      rotate_left 2
      · (simp only [List.getElem?_toArray, List.getElem?_cons_succ, List.getElem?_cons_zero]; rfl)
      · exact fun _ _ _ h => h
      · rfl
      · (intro w hSw; (try dsimp only at hSw); go_simp; (try with_reducible rfl))
      try simp only [Act.put, List.setIfInBounds_toArray, List.set_cons_zero, List.set_cons_succ]
      refine takeL (i := 9) (oi := ?_) (v := ?_) ?_ (by kernel_rfl) (by kernel_rfl) (by kernel_rfl) (by kernel_rfl) ?_ (Or.inl ⟨?_, ?_⟩) (by assumption) ?_
      rotate_left 2
      · (simp only [List.getElem?_toArray, List.getElem?_cons_succ, List.getElem?_cons_zero]; rfl)
      · exact fun _ _ _ h => h
      · rfl
      · (intro w hSw; (try dsimp only at hSw); go_simp; (try with_reducible rfl))
      try simp only [Act.put, List.setIfInBounds_toArray, List.set_cons_zero, List.set_cons_succ]
      refine takeL (i := 10) (oi := ?_) (v := ?_) ?_ (by kernel_rfl) (by kernel_rfl) (by kernel_rfl) (by kernel_rfl) ?_ (Or.inl ⟨?_, ?_⟩) (by assumption) ?_
      rotate_left 2
      · (simp only [List.getElem?_toArray, List.getElem?_cons_succ, List.getElem?_cons_zero]; rfl)
      · exact fun _ _ _ h => h
      · rfl
      · (intro w hSw; (try dsimp only at hSw); go_simp; (try with_reducible rfl))
      try simp only [Act.put, List.setIfInBounds_toArray, List.set_cons_zero, List.set_cons_succ]
      refine readyL (rs := [11]) (by kernel_rfl) (by simp) ?_
      refine AllReadyL.cons (o := ?_) ?_ (fun K hK => ?_) AllReadyL.none_
      rotate_left
      · (simp only [List.getElem?_toArray, List.getElem?_cons_succ, List.getElem?_cons_zero]; rfl)
      go_simp
      refine hK.out _ _ ?_ (fun hHeld => ?_)
      · trivial
      clear hK K
      try simp only [Act.put, List.setIfInBounds_toArray, List.set_cons_zero, List.set_cons_succ]
      refine readyL (rs := [12]) (by kernel_rfl) (by simp) ?_
      refine AllReadyL.cons (o := ?_) ?_ (fun K hK => ?_) AllReadyL.none_
      rotate_left
      · (simp only [List.getElem?_toArray, List.getElem?_cons_succ, List.getElem?_cons_zero]; rfl)
      refine step_append_lies _ (by rfl) _ _ _ (by rfl) w.heap.size 5 i0 (.int .u8 0) 1 1 Tryd.underlying22 hi0 hz0 hz1 hz2 rfl (by decide) (.slice (some ⟨g, 0, none⟩) (2 * k) cap) (Pl.encTo l k).length _ (by rfl) (ownsRow_drew (World.ownsRow.alloc (show wr.ownsRow w.heap.size 5 1 _ _ _ from HO.out) _)) ⟨wr.heap.size, 0, none⟩ 2 2 (bcells (Pl.enc b)) (by rfl) (by rfl) (by have hn := World.news_of_block (cs := #[.int .u8 ((Pl.fig p).toNat : Int), .int .u8 ((Pl.fig q).toNat : Int)]) (t := 5) (fr := (0, 0)) (heap_alloc_new wr _); rw [← HP.out, ← HQ.out, ← HX.out] at hn ⊢; exact hn) (bcells_one _) (by omega) (by rw [HLE.out]; unfold maxLen; omega) (by rw [HLE.out]; omega) (by have := HB.out.size; simp; omega) (wr.heap.size + 1) (by simp) ?_
      intro gg cap2 w2 hown2 hgrow2 hat2 hlt2
      have hk2 := grown_keep (ownsRow_drew (World.ownsRow.alloc (show wr.ownsRow w.heap.size 5 1 _ _ _ from HO.out) _)) hgrow2 (by simp; have := HB.out.size; omega)
      refine hK.out _ _ ?_ (fun hHeld => ?_)
      · trivial
      clear hK K
      try simp only [Act.put, List.setIfInBounds_toArray, List.set_cons_zero, List.set_cons_succ]
      refine takeL (i := 13) (oi := ?_) (v := ?_) ?_ (by kernel_rfl) (by kernel_rfl) (by kernel_rfl) (by kernel_rfl) ?_ (Or.inl ⟨?_, ?_⟩) (by assumption) ?_
      rotate_left 2
      · (simp only [List.getElem?_toArray, List.getElem?_cons_succ, List.getElem?_cons_zero]; rfl)
      · exact fun _ _ _ h => h
      · rfl
      · (intro w hSw; (try dsimp only at hSw); go_simp; (try with_reducible rfl))
      try simp only [Act.put, List.setIfInBounds_toArray, List.set_cons_zero, List.set_cons_succ]
      refine doneL (by kernel_rfl) ?_ _
      have X2 := Lib.hid hown2
      have B2 := Lib.hid ((Below.drew (HB.out.alloc HB.out.size _)).trans hk2)
      clear hown2 hgrow2 hk2 hat2 hHeld
      go_wp2_with fail
      go_roundw
      case rel => exact ⟨k + 1, gg, cap2, by omega, by go_num, by rw [HLE.out, show 2 * (k + 1) = 2 * k + 2 by omega], Lib.hid (by unfold BRow; rw [Pl.encTo_step E1.out, bcells_append, List.length_append]; exact X2.out), B2⟩
      case measure => simp [intOf]; omega
    · obtain rfl : k = n := by omega
      have hc := text_of_row HO.out (by rw [Pl.encTo_length l k (by rw [HL.out]; exact hk)])
      have he : Pl.encTo l k = l.flatMap Pl.enc := by rw [← Pl.encTo_all, HL.out]
      rw [he] at hc
      go_wp2_with fail
      go_ret2
      exact ⟨rfl, HB.out⟩
end Go.Proofs.YtepjjlaipindnaaDoor
