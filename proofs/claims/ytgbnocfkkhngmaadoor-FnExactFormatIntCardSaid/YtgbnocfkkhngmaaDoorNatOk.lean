import Derived.Test.YtgbnocfkkhngmaaDoorSmall
namespace Go.Proofs.YtgbnocfkkhngmaaDoor
set_option linter.unusedVariables false
set_option linter.unusedSimpArgs false
open Go.RowKit

def digB (d : Int) : Bool := inB d 0 999999999
def lastOk (xs : List Int) : Bool := xs.isEmpty || decide (xs.getLastD 0 ≠ 0)
def natOkB (xs : List Int) : Bool := decide (xs.length ≤ 60) && lastOk xs && xs.all digB

theorem lastOk_at {xs : List Int} (h : 0 < xs.length) : lastOk xs = decide (xs[xs.length - 1] ≠ 0) := by
  have hne : xs ≠ [] := by intro h'; simp [h'] at h
  have h1 : xs.isEmpty = false := by simp [hne]
  rw [lastOk, h1, Bool.false_or, List.getLastD_eq_getLast?, List.getLast?_eq_getElem?, List.getElem?_eq_getElem (by omega)]
  rfl

theorem all_false {xs : List Int} {k : Nat} (hk : k < xs.length) (h : digB xs[k] = false) : natOkB xs = false := by
  have : xs.all digB = false := by rw [List.all_eq_false]; exact ⟨_, List.getElem_mem hk, by rw [h]; exact Bool.false_ne_true⟩
  simp [natOkB, this]

theorem all_snoc {xs : List Int} {k : Nat} (hk : k < xs.length) (h : digB xs[k] = true) (ht : (xs.take k).all digB = true) : (xs.take (k + 1)).all digB = true := by
  rw [List.take_succ_eq_append_getElem hk, List.all_append, ht]; simp [h]

end Go.Proofs.YtgbnocfkkhngmaaDoor
