/- Contracts of the laws' own helpers over a byte slice: big, at. -/
import Derived.Test.YtmjjepgnciibcaaBase
import Derived.Test.YtmjjepgnciibcaaMem
namespace Go.Proofs.Ytmjjepgnciibcaa
open Go.RowKit

theorem big_any (a : Option Addr) (len cap : Nat) (w : World) (hl : len ≤ 9223372036854775807) : Calls Try.prog 20 #[.slice a len cap] w fun e w' => e = .returned (.bool (decide (1048576 < len))) ∧ w = w' := by
  go_enter Try.func20, Try.ntmps20
  go_wp2
  go_ret
  exact ⟨ret_bool (by rw [Bool.eq_iff_iff]; simp; omega), rfl⟩
/-- 'at' hands back some byte. -/
def SomeByte (w : World) (e : Ending) (w' : World) : Prop := ∃ n : Int, 0 ≤ n ∧ n ≤ 255 ∧ e = .returned (.int .i64 n) ∧ w = w'
theorem at_any (a : Option Addr) (len cap : Nat) (zs : List Int) (k : Int) (w : World) (hr : IsRow .u8 w a len cap zs) (hk : 0 ≤ k) (hk2 : k ≤ 1000) : Calls Try.prog 23 #[.slice a len cap, .int .i64 k] w (SomeByte w) := by
  rcases hr with ⟨rfl, rfl, rfl, rfl⟩ | ⟨x, rfl, hl, hm, hz, hcell, hwz⟩
  · go_enter Try.func23, Try.ntmps23
    go_wp2
    go_ret
    exact ⟨0, by omega, by omega, rfl, rfl⟩
  · by_cases h0 : len = 0
    · subst h0
      go_enter Try.func23, Try.ntmps23
      go_wp2
      go_ret
      exact ⟨0, by omega, by omega, rfl, rfl⟩
    · obtain ⟨b, off, spot⟩ := x
      have hspot : spot = none := by simpa [Addr.add] using World.cell?_spot (hcell 0 (by omega))
      subst hspot
      unfold maxLen at hm
      obtain ⟨kn, rfl⟩ := Int.eq_ofNat_of_zero_le hk
      have hi : (kn * 5 + 1) % len < len := Nat.mod_lt _ (by omega)
      have hn : ((len : Int) == 0) = false := by simp; omega
      have hc := hcell ((kn * 5 + 1) % len) (by omega)
      have hw := hwz (zs.getD ((kn * 5 + 1) % len) 0) (by rw [List.getD_eq_getElem?_getD, List.getElem?_eq_getElem (by omega)]; simp)
      have hbd := bounds_u8 hw
      generalize hv : zs.getD ((kn * 5 + 1) % len) 0 = v at hc hbd
      clear hv hw hcell hwz
      have hc' : w.cell? ⟨b, off + (kn * 5 + 1) % len, none⟩ = some (.int .u8 v) := by
        rw [← hc]; unfold Addr.add; split
        · rename_i h; rw [h]; simp
        · rfl
      clear hc
      have hi1 : ((kn : Int) * 5 + 1) % (len : Int) < (len : Int) := Int.emod_lt_of_pos _ (by omega)
      have hi2 : 0 ≤ ((kn : Int) * 5 + 1) % (len : Int) := Int.emod_nonneg _ (by omega)
      go_enter Try.func23, Try.ntmps23
      go_wp2
      go_ret
      exact ⟨v, by omega, by omega, rfl, rfl⟩
end Go.Proofs.Ytmjjepgnciibcaa
