/- The law FnExactFormatInt: it returns true. -/
import Derived.Test.YtepjjlaipindnaaDoorTxF
import Derived.Test.YtepjjlaipindnaaDoorMem
namespace Go.Proofs.YtepjjlaipindnaaDoor
open Go.RowKit
set_option linter.unusedVariables false
theorem tab_below {w w' : World} (h : Lib.TabIs Tryd.prog w "internal/strconv.uint64pow10" .u64 Lib.pow10Tab) (hb : Below w.heap.size w w') : Lib.TabIs Tryd.prog w' "internal/strconv.uint64pow10" .u64 Lib.pow10Tab := by
  have hg : Tryd.prog.globalNamed "internal/strconv.uint64pow10" = some 5 := by kernel_rfl
  have hlt : 5 < w.heap.size := by
    unfold Lib.TabIs World.var? at h
    simp only [hg, Option.bind_some] at h
    by_cases hx : 5 < w.heap.size
    · exact hx
    · rw [Array.getElem?_eq_none (by omega)] at h
      cases h
  exact var?_below hb hg hlt h
set_option maxHeartbeats 2000000 in
theorem walkFnExactFormatInt (n : Int) (w : World) (wn : (Lit.int .i64 n).wf = true) (htab : Lib.TabIs Tryd.prog w "internal/strconv.uint64pow10" .u64 Lib.pow10Tab) : Calls Tryd.prog 6 #[.int .i64 n] w fun e w' => e = .returned (.bool true) ∧ Below w.heap.size w w' := by
  have hb : -9223372036854775808 ≤ n ∧ n ≤ 9223372036854775807 := by
    simp [Lit.wf] at wn
    first | exact wn | (constructor <;> omega)
  have H1 := Lib.hid hb
  have HT := Lib.hid htab
  clear hb wn htab
  go_enter Tryd.func6, Tryd.ntmps6
  go_wp2_with fail
  refine (specFormat n H1.out.1 H1.out.2 _).mono ?_
  rintro e w1 ⟨rfl, hb1⟩
  have B1 := Lib.hid hb1
  clear hb1
  go_wp2_with fail
  refine (implFormat n H1.out.1 H1.out.2 _ (tab_below HT.out B1.out)).mono ?_
  rintro e w2 ⟨rfl, hb2⟩
  have B2 := Lib.hid hb2
  clear hb2
  generalize Lib.itoa n = r
  go_wp2_with fail
  go_ret
  exact ⟨rfl, later B1.out B2.out⟩
end Go.Proofs.YtepjjlaipindnaaDoor
