/- ParseBigInt: the reference. -/
import Derived.Test.YtehhpkeabckdaaaGreatDoorParS
import Derived.Test.YtehhpkeabckdaaaGreatDoorK4
namespace Go.Proofs.YtehhpkeabckdaaaGreatDoor
set_option linter.unusedVariables false
set_option linter.unusedSimpArgs false
open Go.RowKit
def pbNeg (s : ByteArray) : Bool := decide (s.data.toList.head? = some 45)
def pbDig (s : ByteArray) : ByteArray := if pbNeg s then s.extract 1 s.size else s
def pbOk (s : ByteArray) : Bool := pnOk (pbDig s) && (!pbNeg s || decide (0 < (pnD (pbDig s)).length))
def pbV (s : ByteArray) : BI := if pbOk s then ⟨pbNeg s, pnD (pbDig s)⟩ else ⟨false, []⟩
theorem pb_no {s : ByteArray} (h : pbOk s = false) : pbV s = ⟨false, []⟩ := if_neg (by rw [h]; exact Bool.false_ne_true)
theorem pb_yes {s : ByteArray} (h : pbOk s = true) : pbV s = ⟨pbNeg s, pnD (pbDig s)⟩ := if_pos h
theorem pbV_len (s : ByteArray) : (pbV s).mag.length ≤ 60 := by
  cases h : pbOk s with
  | true => rw [pb_yes h]; exact pnD_len _
  | false => rw [pb_no h]; exact Nat.zero_le _
theorem pbNeg_nil : pbNeg ⟨#[]⟩ = false := rfl
theorem pnOk_nil : pnOk ⟨#[]⟩ = false := rfl
theorem pbNeg_yes {s : ByteArray} (h : 0 < s.size) (h0 : s[0] = 45) : pbNeg s = true ∧ pbDig s = s.extract 1 s.size := by
  have h1 : pbNeg s = true := by unfold pbNeg; rw [head_byte h, h0]; rfl
  exact ⟨h1, by unfold pbDig; rw [h1]; rfl⟩
theorem pbNeg_no {s : ByteArray} (h : 0 < s.size) (h0 : ¬ s[0] = 45) : pbNeg s = false ∧ pbDig s = s := by
  have h1 : pbNeg s = false := by unfold pbNeg; rw [head_byte h]; exact decide_eq_false (by simpa using h0)
  exact ⟨h1, by unfold pbDig; rw [h1]; rfl⟩
theorem tail_size (s : ByteArray) : (s.extract 1 s.size).size = s.size - 1 := by simp
theorem empty_of {s : ByteArray} (h : ¬ 0 < s.size) : s = ⟨#[]⟩ := by
  apply ByteArray.ext
  exact Array.eq_empty_of_size_eq_zero (by have : s.data.size = s.size := rfl; omega)
theorem not_empty {s : ByteArray} (h : 0 < s.size) : s.toList.isEmpty = false := by
  rw [ByteArray.toList_eq, List.isEmpty_eq_false_iff]
  intro e
  have h2 := congrArg List.length e
  rw [Array.length_toList] at h2
  have h3 : s.data.size = s.size := rfl
  rw [h3, List.length_nil] at h2; omega
theorem big_of_pn (n : Bool) (s : ByteArray) : bigOkB n (pnD s) = (!n || decide (0 < (pnD s).length)) := by unfold bigOkB; rw [pnD_ok]; rfl
end Go.Proofs.YtehhpkeabckdaaaGreatDoor
