import Derived.Test.YtgbnocfkkhngmaaDoorHelp
namespace Go.Proofs.YtgbnocfkkhngmaaDoor
set_option linter.unusedVariables false
set_option linter.unusedSimpArgs false
open Go.RowKit

theorem cell_one (w : World) (v : Value) (t : TypeId) : ∀ j u, [v][j]? = some u → (w.alloc (.cells #[v] t)).cell? ((⟨w.heap.size, 0, none⟩ : Addr).add j) = some u := cell_one_new w v t

theorem own_empty (w : World) : Own 3 (w.alloc (.cells #[] 3)) w.heap.size (.slice (some ⟨w.heap.size, 0, none⟩) 0 0) [] :=
  ⟨by simp, World.ownsRow_lit (base := w.heap.size) (size := 1) (e := 3) w #[] 0 (Nat.le_refl _) (by unfold maxLen; omega) rfl⟩

theorem own_emptyB (w : World) {B : Nat} (hB : B = w.heap.size) : Own 3 (w.alloc (.cells #[] 3)) B (.slice (some ⟨B, 0, none⟩) 0 0) [] := by subst hB; exact own_empty w

theorem own_nil (w : World) (base : Nat) : Own 3 w base (.slice none 0 0) [] := ⟨by simp, World.ownsRow_nil w base _ _⟩
end Go.Proofs.YtgbnocfkkhngmaaDoor
