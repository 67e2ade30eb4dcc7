/- BigIntOf. -/
import Derived.Test.YtcbamiablkbeoaaBigNeg
import Derived.Test.YtcbamiablkbeoaaNatOf
namespace Go.Proofs.Ytcbamiablkbeoaa
set_option linter.unusedVariables false
set_option linter.unusedSimpArgs false
open Go.RowKit

def bigOf (n : Int) : BI := mkBI (decide (n < 0)) (digs n.natAbs)
theorem digs3 {n : Int} (h : In64 n) : (digs n.natAbs).length ≤ 3 := digs_len_le (by unfold In64 at h; unfold pw; omega)
theorem bigOf_len (n : Int) (h : In64 n) : (bigOf n).mag.length ≤ 1048576 := by have := digs3 h; show (digs n.natAbs).length ≤ _; omega
theorem capD_digs {m : Nat} (h : (digs m).length ≤ 60) : capD m = digs m := by unfold capD; rw [if_pos h]

theorem ints_lit (w : World) (xs : List Int) (h : ∀ x ∈ xs, In64 x) (hm : xs.length ≤ maxLen) : IntsAt (w.alloc (.cells (xs.map (Value.int .i64)).toArray 3)) (some ⟨w.heap.size, 0, none⟩) xs.length xs := by
  refine ⟨h, Nat.le_refl _, hm, (fun h => by cases h), .inr ⟨w.heap.size, 0, rfl, by simp, fun j hj => ?_⟩⟩
  rw [World.cell?_alloc_at _ _ _ _ rfl]
  simp [hj]

/-- the result's box behind a call: a value of two cells is stored into it -/
theorem big_end {w w1 w2 : World} {n : Bool} {p : Option Addr} {c lo : Nat} {xs : List Int} (hlo : w.heap.size < lo) (ho : OwnI w2 lo w2.heap.size (.slice p xs.length c) xs) (b : Below w.heap.size w w2) (u1 u2 : Value) :
    OwnI ((w2.setCell ⟨w.heap.size, 0, none⟩ u1).setCell ⟨w.heap.size, 1, none⟩ u2) w.heap.size ((w2.setCell ⟨w.heap.size, 0, none⟩ u1).setCell ⟨w.heap.size, 1, none⟩ u2).heap.size (.slice p xs.length c) xs ∧
      Below w.heap.size w ((w2.setCell ⟨w.heap.size, 0, none⟩ u1).setCell ⟨w.heap.size, 1, none⟩ u2) :=
  ⟨((ho.low hlo _).low hlo _).mono (by omega) (by simp), (b.setCell (by simp) _).setCell (by simp) _⟩

section
variable (n : Int) (w : World) (hn : In64 n)
include hn
end
end Go.Proofs.Ytcbamiablkbeoaa
