/- Contracts in the form that the laws' walks take. -/
import Derived.Test.YtjklefkkdaelnaaDoorMem
namespace Go.Proofs.YtjklefkkdaelnaaDoor
set_option linter.unusedVariables false
set_option linter.unusedSimpArgs false
open Go.RowKit

theorem OwnI.ints {w : World} {lo hi : Nat} {a : Option Addr} {cap : Nat} {xs : List Int} (h : OwnI w lo hi (.slice a xs.length cap) xs) : IntsAt w a cap xs := h.1.ints

theorem Own.out {w : World} {lo : Nat} {v : Value} {xs : List Int} (h : Own 3 w lo v xs) : ∃ a c, v = .slice a xs.length c ∧ OwnI w lo w.heap.size (.slice a xs.length c) xs := by
  obtain ⟨a, c, rfl, _⟩ := h.form
  exact ⟨a, c, rfl, h.toI⟩

theorem toIntS_own (a : Option Addr) (cap : Nat) (xs : List Int) (w : World) (ha : IntsAt w a cap xs) (hn : xs.length ≤ 1048576) :
    Calls Tryd.prog 19 #[.slice a xs.length cap] w fun e w' => ∃ b c, e = .returned (.slice b xs.length c) ∧
      OwnI w' w.heap.size w'.heap.size (.slice b xs.length c) xs ∧ Below w.heap.size w w' :=
  (toIntS_any a cap xs w ha hn).mono fun _ _ ⟨_, h1, h2, h3⟩ => ⟨_, _, h1, h2.toI, h3⟩
end Go.Proofs.YtjklefkkdaelnaaDoor
