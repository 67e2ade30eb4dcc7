/- Contracts in the form that the laws' walks take. -/
import Derived.Test.YtgbnocfkkhngmaaDoorMem
namespace Go.Proofs.YtgbnocfkkhngmaaDoor
set_option linter.unusedVariables false
set_option linter.unusedSimpArgs false
open Go.RowKit

theorem OwnI.ints {w : World} {lo hi : Nat} {a : Option Addr} {cap : Nat} {xs : List Int} (h : OwnI w lo hi (.slice a xs.length cap) xs) : IntsAt w a cap xs := h.1.ints

theorem Own.out {w : World} {lo : Nat} {v : Value} {xs : List Int} (h : Own 3 w lo v xs) : ∃ a c, v = .slice a xs.length c ∧ OwnI w lo w.heap.size (.slice a xs.length c) xs := by
  obtain ⟨a, c, rfl, _⟩ := h.form
  exact ⟨a, c, rfl, h.toI⟩

end Go.Proofs.YtgbnocfkkhngmaaDoor
