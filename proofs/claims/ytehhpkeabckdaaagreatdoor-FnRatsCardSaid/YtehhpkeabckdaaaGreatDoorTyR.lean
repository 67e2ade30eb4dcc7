/- Fractions: reading, copying, holding against, marking. -/
import Derived.Test.YtehhpkeabckdaaaGreatDoorK2
namespace Go.Proofs.YtehhpkeabckdaaaGreatDoor
set_option linter.unusedVariables false
set_option linter.unusedSimpArgs false
open Go.RowKit

/-- marks of two rows, the second in later blocks -/
def MTwo (w : World) (lo hi : Nat) (u v : Value) (n m : Nat) (k : Int) : Prop := ∃ q, lo ≤ q ∧ q ≤ hi ∧ MarkI w lo q u n k ∧ MarkI w q hi v m (k + n)
theorem MTwo.below {w w' : World} {lo hi n m : Nat} {u v : Value} {k : Int} (h : MTwo w lo hi u v n m k) (b : Below w.heap.size w w') : MTwo w' lo hi u v n m k := let ⟨q, h1, h2, h3, h4⟩ := h; ⟨q, h1, h2, h3.below b, h4.below b⟩
theorem MTwo.span {w w' : World} {lo hi lo2 hi2 n m : Nat} {u v : Value} {k : Int} (h : MTwo w lo hi u v n m k) (s : Span lo2 hi2 w w') (ho : hi ≤ lo2 ∨ hi2 ≤ lo) : MTwo w' lo hi u v n m k :=
  let ⟨q, h1, h2, h3, h4⟩ := h; ⟨q, h1, h2, h3.span s (by omega), h4.span s (by omega)⟩

end Go.Proofs.YtehhpkeabckdaaaGreatDoor
