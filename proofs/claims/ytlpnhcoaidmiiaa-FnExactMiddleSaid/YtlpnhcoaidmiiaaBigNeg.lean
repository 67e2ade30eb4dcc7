/- BigIntNeg. -/
import Derived.Test.YtlpnhcoaidmiiaaBig
import Derived.Deep.RegionHeld3
namespace Go.Proofs.Ytlpnhcoaidmiiaa
set_option linter.unusedVariables false
set_option linter.unusedSimpArgs false
open Go.RowKit

def bigNeg (n : Bool) (xs : List Int) : BI := if bigOkB n xs then mkBI (!n) xs else ⟨false, []⟩
theorem bigOk_nat {n : Bool} {xs : List Int} (h : bigOkB n xs = true) : natOkB xs = true := by unfold bigOkB at h; simp only [Bool.and_eq_true] at h; exact h.1
theorem cap_ok {xs : List Int} (h : natOkB xs = true) : capD (val xs) = xs := by
  unfold capD
  rw [ok_digs h, if_pos (ok_len h)]
theorem bigNeg_ok {n : Bool} {xs : List Int} (h : bigOkB n xs = true) : bigNeg n xs = mkBI (!n) xs := by unfold bigNeg; rw [if_pos h]
theorem bigNeg_no {n : Bool} {xs : List Int} (h : bigOkB n xs = false) : bigNeg n xs = ⟨false, []⟩ := by unfold bigNeg; rw [h]; rfl
theorem bigNeg_len (n : Bool) (xs : List Int) : (bigNeg n xs).mag.length ≤ 1048576 := by
  unfold bigNeg
  split
  · rename_i h; have := ok_len (bigOk_nat h); show xs.length ≤ _; omega
  · simp

theorem zero_big (w : World) (n : Bool) (xs : List Int) (h : bigOkB n xs = false) (w' : World) (b : Below w.heap.size w w') :
    ∃ p c, (.agg #[.bool false, .slice none 0 0] : Value) = .agg #[.bool (bigNeg n xs).neg, .slice p (bigNeg n xs).mag.length c] ∧ OwnI w' w.heap.size w'.heap.size (.slice p (bigNeg n xs).mag.length c) (bigNeg n xs).mag := by
  rw [bigNeg_no h]
  exact ⟨none, 0, rfl, (own_nil _ _).toI⟩

section
variable (n : Bool) (a : Option Addr) (c : Nat) (xs : List Int) (w : World) (ha : IntsAt w a c xs) (hn : xs.length ≤ 1048576)
include ha hn
end
end Go.Proofs.Ytlpnhcoaidmiiaa
