/- Contracts: mapImage, and the program's functions that use it. -/
import Derived.Test.YtbgemonpkncldaaIm3
import Derived.Deep.RegionLaw
import Derived.Deep.QuietTactic
import Derived.BigQuiet
namespace Go.Proofs.Ytbgemonpkncldaa
open Go.RowKit
set_option linter.unusedVariables false
/-- The image that is being built lies in block b, its row in a block from lo on, another than b. -/
def AccL (w1 wr : World) (lo b : Nat) (X Y : Int) (d : List Int) (v : Value) : Prop :=
  wr.cell? ⟨b, 0, none⟩ = some (.int .i64 X) ∧ wr.cell? ⟨b, 1, none⟩ = some (.int .i64 Y) ∧ wr.cell? ⟨b, 2, none⟩ = some v ∧ wr.frozen? ⟨b, 2, none⟩ = false ∧
  wr.ownsRow lo 3 1 v d.length (d.map (Value.int .i64)) ∧ v.ownBlock ≠ some b ∧ lo ≤ b ∧ Below lo w1 wr ∧ b < wr.heap.size
def AccE (w1 wr : World) (lo b : Nat) (X Y : Int) (d : List Int) : Prop := ∃ v, AccL w1 wr lo b X Y d v
theorem AccL.push {w1 wr wa w2 : World} {lo b gg cap H : Nat} {X Y : Int} {d : List Int} {v : Value} {z : Int} (h : AccL w1 wr lo b X Y d v) (hb : Below wr.heap.size wr wa)
    (hown : w2.ownsRow lo 3 1 (.slice (some ⟨gg, 0, none⟩) (d.length + 1) cap) (d.length + 1) (d.map (Value.int .i64) ++ [.int .i64 z])) (hg : wa.grownBy w2 v.ownBlock) (hat : v.ownBlock = some gg ∨ gg = H) (hH : b < H) :
    AccE w1 (w2.setCell ⟨b, 2, none⟩ (.slice (some ⟨gg, 0, none⟩) (d.length + 1) cap)) lo b X Y (d ++ [z]) := by
  obtain ⟨h0, h1, h2, h3, h4, h5, h6, h7, h8⟩ := h
  have hgb : gg ≠ b := by
    rcases hat with hat | hat
    · intro e; subst e; exact h5 hat
    · omega
  have hk : ∀ k, k < wr.heap.size → some k ≠ v.ownBlock → w2.heap[k]? = wr.heap[k]? := fun k hk hne => (hg.block k (by have := hb.size; omega) hne).trans (hb.block k hk)
  have c0 : ∀ o, w2.cell? ⟨b, o, none⟩ = wr.cell? ⟨b, o, none⟩ := fun o => World.cell?_of_block (hk b h8 (Ne.symm h5))
  have f0 : ∀ o, w2.frozen? ⟨b, o, none⟩ = wr.frozen? ⟨b, o, none⟩ := fun o => World.frozen?_of_block (hk b h8 (Ne.symm h5))
  have hlo : Below lo wr w2 := ⟨hg.os.trans hb.os, hg.tape.trans hb.tape, hg.output.trans hb.output, Nat.le_trans hb.size hg.size, fun k hk' => hk k (by omega) (fun e => by have := h4.lt k e.symm; omega)⟩
  refine ⟨.slice (some ⟨gg, 0, none⟩) (d.length + 1) cap, by simp [go_sem, c0, h0], by simp [go_sem, c0, h1], by simp [go_sem, c0, h2], by simp [go_sem, f0, h3], ?_, by simpa [Value.ownBlock] using hgb, h6, (h7.trans hlo).setCell h6 _, by have := hlo.size; simp [World.setCell]; omega⟩
  rw [List.length_append, List.map_append]
  refine ⟨by simp, ?_⟩
  rcases hown.2 with ⟨e, _⟩ | ⟨g', cap', cur, e, r1, r2, r3⟩
  · simp at e
  · refine .inr ⟨g', cap', cur, e, r1, ?_, r3⟩
    injection e with e1
    injection e1 with e1
    injection e1 with e1
    subst e1
    rw [Below.heap_setCell _ _ _ _ hgb]
    exact r2
theorem AccL.after {w1 wr wa w2 : World} {lo b : Nat} {X Y : Int} {d : List Int} {v : Value} (h : AccL w1 wr lo b X Y d v) (hb : Below wr.heap.size wr wa) (hg : wa.grownBy w2 v.ownBlock) : w2.cell? ⟨b, 2, none⟩ = some v ∧ w2.frozen? ⟨b, 2, none⟩ = false := by
  obtain ⟨h0, h1, h2, h3, h4, h5, h6, h7, h8⟩ := h
  have hk : w2.heap[b]? = wr.heap[b]? := (hg.block b (by have := hb.size; omega) (Ne.symm h5)).trans (hb.block b h8)
  exact ⟨(World.cell?_of_block hk).trans h2, (World.frozen?_of_block hk).trans h3⟩
theorem below_da {w : World} {o : Obj} {k : Nat} : Below w.heap.size w ((w.drewN k).alloc o) := (below_refl_drewN _ _ _).alloc (Nat.le_refl _) _
theorem own_da {w : World} {o : Obj} {k base : Nat} {e : TypeId} {size n : Nat} {v : Value} {xs : List Value} (h : w.ownsRow base e size v n xs) : ((w.drewN k).alloc o).ownsRow base e size v n xs := World.ownsRow.alloc (w := w.drewN k) h o
theorem news_da {w : World} {k : Nat} {z : Int} : ∀ j u, [Value.int .i64 z][j]? = some u → ((w.drewN k).alloc (.cells #[.int .i64 z] 3)).cell? ((⟨w.heap.size, 0, none⟩ : Addr).add j) = some u := World.news_of_block (cs := #[.int .i64 z]) (t := 3) (fr := (0, 0)) (heap_alloc_new (w.drewN k) _)
theorem own_ad {w : World} {o : Obj} {k base : Nat} {e : TypeId} {size n : Nat} {v : Value} {xs : List Value} (h : w.ownsRow base e size v n xs) : ((w.alloc o).drewN k).ownsRow base e size v n xs := h.alloc o
theorem news_ad {w : World} {k : Nat} {z : Int} : ∀ j u, [Value.int .i64 z][j]? = some u → ((w.alloc (.cells #[.int .i64 z] 3)).drewN k).cell? ((⟨w.heap.size, 0, none⟩ : Addr).add j) = some u := World.news_of_block (cs := #[.int .i64 z]) (t := 3) (fr := (0, 0)) (heap_alloc_new w _)
set_option maxHeartbeats 4000000 in
theorem mapTile (b1 X Y : Nat) (f : Nat → Nat → Int) (w : World) (x1 : 1 ≤ X) (x2 : X ≤ 16) (y1 : 1 ≤ Y) (y2 : Y ≤ 16)
    (HF : ∀ (x y : Nat) (wr : World), x < X → y < Y → Below w.heap.size w wr → Calls Try.prog 62 #[.int .i64 x, .int .i64 y, .pointer (some ⟨b1, 0, none⟩)] wr fun e w' => e = .returned (.int .i64 (f x y)) ∧ ∃ m, w' = wr.drewN m) :
    Calls Try.prog 61 #[.int .i64 X, .int .i64 Y, .func (.func 62) #[] #[.pointer (some ⟨b1, 0, none⟩)]] w (NewImg ⟨X, Y, Pl.tabTo X f (Y * X)⟩ w) := by
  have HFH := Lib.hid HF
  clear HF
  obtain ⟨i0, hi0, hz0, hz1, hz2⟩ := info_parts Try.infoInt
  have hm0 : X * Y ≤ 256 := by have := Nat.mul_le_mul x2 y2; omega
  have HM := Lib.hid (Int.natCast_mul X Y)
  go_enter Try.func61, Try.ntmps61
  go_wp2_with (at_make; refine wpList_make_own _ rfl _ _ 22 rfl (w.heap.size + 1) 3 i0 (.int .i64 0) 1 Try.underlying22 hi0 hz0 hz1 _ _ _ (X * Y) rfl rfl (by rw [HM.out]) (by rw [hz2]; omega) (by unfold maxLen; omega) (by simp) ?_)
  intro w1 hown hgrow
  have hlt0 : w.heap.size + 1 < w1.heap.size := (hown.lt _ rfl).2
  have hk0 : Below (w.heap.size + 1) (w.alloc (.cells #[.int .i64 0, .int .i64 0, .slice none 0 0] 27)) w1 := ⟨hgrow.os, hgrow.tape, hgrow.output, hgrow.size, fun k hk => hgrow.block k (by simp; omega) (by simp)⟩
  have ⟨kr, fr⟩ := keepc hk0 w.heap.size (by omega)
  have XR := Lib.hid (show Box w1 w.heap.size [.int .i64 0, .int .i64 0, .slice none 0 0] from ⟨by omega, fun o v hv => by
    rw [kr]
    match o, hv with
    | 0, hv => simp at hv; subst hv; simp [go_sem]
    | 1, hv => simp at hv; subst hv; simp [go_sem]
    | 2, hv => simp at hv; subst hv; simp [go_sem]⟩)
  have FR := Lib.hid (show ∀ o, w1.frozen? ⟨w.heap.size, o, none⟩ = false from fun o => by rw [fr]; simp [go_sem])
  have B1 : Below w.heap.size w w1 := (by go_grown : Below w.heap.size w (w.alloc (.cells #[.int .i64 0, .int .i64 0, .slice none 0 0] 27))).trans (hk0.mono (by omega))
  have A0 : AccE w1 (w1.alloc (.cells #[.int .i64 X, .int .i64 Y, .slice (some ⟨w.heap.size + 1, 0, none⟩) 0 (X * Y)] 27)) (w.heap.size + 1) w1.heap.size X Y [] := ⟨_, by simp [go_sem], by simp [go_sem], by simp [go_sem], by simp [go_sem], hown.alloc _, by simp [Value.ownBlock]; omega, by omega, by go_grown, by simp⟩
  clear hown hgrow kr fr hk0
  go_wp2_with fail
  go_loopw [18] (fun i wr => ∃ q : Nat, q ≤ Y ∧ i = .int .i64 q ∧ AccE w1 wr (w.heap.size + 1) w1.heap.size X Y (Pl.tabTo X f (q * X))) (fun i _ => Y - (intOf i).toNat)
  case atStart => exact ⟨0, by omega, rfl, by simpa [Pl.tabTo] using A0⟩
  case round =>
    clear A0
    obtain ⟨q, hq, rfl, hacc⟩ := hrel
    by_cases hlt : q < Y
    · obtain ⟨wo, rfl⟩ : ∃ wo : World, wo = wr := ⟨_, rfl⟩
      go_wp2_with fail
      go_loopw [22] (fun i wr => ∃ p : Nat, p ≤ X ∧ i = .int .i64 p ∧ AccE w1 wr (w.heap.size + 1) w1.heap.size X Y (Pl.tabTo X f (q * X + p))) (fun i _ => X - (intOf i).toNat)
      case atStart => exact ⟨0, by omega, rfl, by simpa using hacc⟩
      case round =>
        clear hacc
        obtain ⟨p, hp, rfl, hacc⟩ := hrel
        by_cases hlt2 : p < X
        · obtain ⟨v, hv⟩ := hacc
          have HAV := Lib.hid hv
          obtain ⟨v0, v1, v2, v3, v4, v5, v6, v7, v8⟩ := hv
          have OW := Lib.hid v4
          have NE := Lib.hid v5
          have BW : Below w.heap.size w wr := B1.trans (v7.mono (by omega))
          have PB := Lib.hid (Pl.place2 hlt hlt2 x2 y2)
          have vd : ∀ k o, ((wr.drewN k).alloc o).cell? ⟨w1.heap.size, 2, none⟩ = some v := fun k o => (cell_old (w := wr.drewN k) v8).trans v2
          clear v4 v5
          go_wp2_with fail
          go_region_law (first
            | (refine step_append_lies _ (by rfl) _ _ _ (by rfl) (w.heap.size + 1) 3 i0 (.int .i64 0) 1 8 Try.underlying22 hi0 hz0 hz1 hz2 rfl (by decide) v (Pl.tabTo X f (q * X + p)).length _ (by rfl) (own_da OW.out) ⟨wr.heap.size, 0, none⟩ 1 1 [.int .i64 (f p q)] (by rfl) (by rfl) news_da (one_one _) (by omega) (by rw [Pl.tabTo_length]; unfold maxLen; have := PB.out.1; omega) (by rw [Pl.tabTo_length]; have := PB.out.1; omega) (by simp; omega) (wr.heap.size + 1) (by simp) ?_; intro gg cap w2 hown2 hgrow2 hat2 hlt7; have ⟨cb2, fb2⟩ := HAV.out.after below_da hgrow2)
            | (go_simp; go_at_call 62; refine (HFH.out p q _ hlt2 hlt (below_drewN BW _)).mono ?_; rintro e w' ⟨rfl, m, rfl⟩)
            | (go_simp; go_at_call 62; refine (HFH.out p q _ hlt2 hlt (Below.drew BW)).mono ?_; rintro e w' ⟨rfl, m, rfl⟩))
          all_goals
            clear cb2 fb2 vd
            go_wp2_with fail
            have PU := HAV.out.push below_da hown2 hgrow2 hat2 (by omega)
            rw [Pl.tabTo_snoc _ hlt2] at PU
            go_roundw
            case rel => exact ⟨p + 1, by omega, by go_num, PU⟩
            case measure => simp [intOf]; omega
        · obtain rfl : p = X := by omega
          go_wp2_with fail
          go_roundw
          case rel => exact ⟨q + 1, by omega, by go_num, by rw [Nat.add_mul, Nat.one_mul]; exact hacc⟩
          case measure => simp [intOf]; omega
    · obtain rfl : q = Y := by omega
      obtain ⟨v, hv⟩ := hacc
      obtain ⟨v0, v1, v2, v3, v4, v5, v6, v7, v8⟩ := hv
      obtain ⟨A1, c1, rfl, _⟩ := (Own.of_row v4).shape
      have OW := Lib.hid v4
      have NE := Lib.hid v5
      clear v4 v5
      have ⟨qr0, qr1, qr2, qr3⟩ := (XR.out.below v7 (by omega)).open3
      have fr0 : wr.frozen? ⟨w.heap.size, 0, none⟩ = false := (v7.frozen (p := ⟨w.heap.size, 0, none⟩) (by simp)).trans (FR.out 0)
      have fr1 : wr.frozen? ⟨w.heap.size, 1, none⟩ = false := (v7.frozen (p := ⟨w.heap.size, 1, none⟩) (by simp)).trans (FR.out 1)
      have fr2 : wr.frozen? ⟨w.heap.size, 2, none⟩ = false := (v7.frozen (p := ⟨w.heap.size, 2, none⟩) (by simp)).trans (FR.out 2)
      have B2 : Below w.heap.size w wr := B1.trans (v7.mono (by omega))
      go_wp2_with fail
      refine bodyPost_ret (v := .agg #[.int .i64 (X : Int), .int .i64 (q : Int), .slice A1 (Pl.tabTo X f (q * X)).length c1]) (by simp [results, Try.results61, go_sem, qr1, qr2, qr3]) rfl ?_
      refine ⟨A1, c1, rfl, ?_, by go_grown⟩
      have h := Own.far (Own.far (Own.far (Own.of_row OW.out) (p := ⟨w.heap.size, 0, none⟩) (.inl (by simp)) (.int .i64 X)) (p := ⟨w.heap.size, 1, none⟩) (.inl (by simp)) (.int .i64 q)) (p := ⟨w.heap.size, 2, none⟩) (.inl (by simp)) (.slice A1 (Pl.tabTo X f (q * X)).length c1)
      exact Own.mono h (by omega) (by simp [World.setCell]) (by simp [World.setCell])
end Go.Proofs.Ytbgemonpkncldaa
