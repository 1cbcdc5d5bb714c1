/- Contracts: 'at', by its value. -/
import Derived.Test.YtmjjepgnciibcaaAt
namespace Go.Proofs.Ytmjjepgnciibcaa.Pl
def atV (len : Nat) (zs : List Int) (k : Int) : Int := if len = 0 then 0 else zs.getD ((k * 5 + 1).toNat % len) 0
end Go.Proofs.Ytmjjepgnciibcaa.Pl
namespace Go.Proofs.Ytmjjepgnciibcaa
open Go.RowKit
theorem atV_bd {w : World} {a : Option Addr} {len cap : Nat} {zs : List Int} (hr : IsRow .u8 w a len cap zs) (k : Int) : 0 ≤ Pl.atV len zs k ∧ Pl.atV len zs k ≤ 255 := by
  unfold Pl.atV
  split
  · omega
  · rcases hr with ⟨_, rfl, _⟩ | ⟨x, rfl, hl, hm, hz, hcell, hwz⟩
    · omega
    · have hi : (k * 5 + 1).toNat % len < len := Nat.mod_lt _ (by omega)
      exact bounds_u8 (hwz _ (by rw [List.getD_eq_getElem?_getD, List.getElem?_eq_getElem (by omega)]; simp))
theorem at_val (a : Option Addr) (len cap : Nat) (zs : List Int) (k : Int) (w : World) (hr : IsRow .u8 w a len cap zs) (hk : 0 ≤ k) (hk2 : k ≤ 1000) : Calls Try.prog 23 #[.slice a len cap, .int .i64 k] w fun e w' => e = .returned (.int .i64 (Pl.atV len zs k)) ∧ w = w' := by
  rcases hr with ⟨rfl, rfl, rfl, rfl⟩ | ⟨x, rfl, hl, hm, hz, hcell, hwz⟩
  · go_enter Try.func23, Try.ntmps23
    go_wp2
    go_ret
    exact ⟨ret_int (by simp [Pl.atV]), rfl⟩
  · by_cases h0 : len = 0
    · subst h0
      go_enter Try.func23, Try.ntmps23
      go_wp2
      go_ret
      exact ⟨ret_int (by simp [Pl.atV]), rfl⟩
    · obtain ⟨b, off, spot⟩ := x
      have hspot : spot = none := by simpa [Addr.add] using World.cell?_spot (hcell 0 (by omega))
      subst hspot
      unfold maxLen at hm
      obtain ⟨kn, rfl⟩ := Int.eq_ofNat_of_zero_le hk
      have hi : (kn * 5 + 1) % len < len := Nat.mod_lt _ (by omega)
      have hn : ((len : Int) == 0) = false := by simp; omega
      have hc := hcell ((kn * 5 + 1) % len) (by omega)
      have hw := hwz (zs.getD ((kn * 5 + 1) % len) 0) (by rw [List.getD_eq_getElem?_getD, List.getElem?_eq_getElem (by omega)]; simp)
      have hbd := bounds_u8 hw
      generalize hv : zs.getD ((kn * 5 + 1) % len) 0 = v at hc hbd
      have HV := Lib.hid (show v = Pl.atV len zs (kn : Int) by unfold Pl.atV; rw [if_neg h0, show ((kn : Int) * 5 + 1).toNat = kn * 5 + 1 by omega]; exact hv.symm)
      clear hv hw hcell hwz
      have hc' : w.cell? ⟨b, off + (kn * 5 + 1) % len, none⟩ = some (.int .u8 v) := by
        rw [← hc]; unfold Addr.add; split
        · rename_i h; rw [h]; simp
        · rfl
      clear hc
      have hi1 : ((kn : Int) * 5 + 1) % (len : Int) < (len : Int) := Int.emod_lt_of_pos _ (by omega)
      have hi2 : 0 ≤ ((kn : Int) * 5 + 1) % (len : Int) := Int.emod_nonneg _ (by omega)
      go_enter Try.func23, Try.ntmps23
      go_wp2
      go_ret
      exact ⟨ret_int HV.out, rfl⟩
end Go.Proofs.Ytmjjepgnciibcaa
