/- Rationals: isSmall. -/
import Derived.Test.YtehhpkeabckdaaaGreatDoorRatOkW
namespace Go.Proofs.YtehhpkeabckdaaaGreatDoor
set_option linter.unusedVariables false
set_option linter.unusedSimpArgs false
open Go.RowKit
def smallB (xs ds : List Int) : Bool := decide (xs.length ≤ 1) && decide (ds.length = 1)
section
variable (n : Bool) (a : Option Addr) (ca : Nat) (xs : List Int) (b : Option Addr) (cb : Nat) (ds : List Int) (w : World)
set_option maxHeartbeats 1000000 in
theorem isSmall_any : Calls Tryz.prog 32 #[.agg #[.bool n, .slice a xs.length ca, .slice b ds.length cb]] w fun e w' => e = .returned (.bool (smallB xs ds)) ∧ Below w.heap.size w w' := by
  by_cases h1 : xs.length ≤ 1
  · have h1' : decide ((xs.length : Int) ≤ 1) = true := decide_eq_true (by omega)
    have e : smallB xs ds = ((ds.length : Int) == 1) := by
      unfold smallB
      rw [decide_eq_true h1, Bool.true_and]
      by_cases h2 : ds.length = 1
      · rw [decide_eq_true h2]; exact (beq_iff_eq.2 (by omega)).symm
      · rw [decide_eq_false h2]; exact (beq_eq_false_iff_ne.2 (by omega)).symm
    rw [e]
    clear e
    go_enter Tryz.func32, Tryz.ntmps32
    go_wp2
    go_ret
    exact ⟨rfl, ba1 _ _⟩
  · have h1' : decide ((xs.length : Int) ≤ 1) = false := decide_eq_false (by omega)
    have e : smallB xs ds = false := by unfold smallB; rw [decide_eq_false h1]; rfl
    rw [e]
    clear e
    go_enter Tryz.func32, Tryz.ntmps32
    go_wp2
    go_ret
    exact ⟨rfl, ba1 _ _⟩
end
end Go.Proofs.YtehhpkeabckdaaaGreatDoor
