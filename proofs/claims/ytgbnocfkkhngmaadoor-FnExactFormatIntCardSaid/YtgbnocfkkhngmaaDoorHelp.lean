import Derived.Test.YtgbnocfkkhngmaaDoorBase
namespace Go.Proofs.YtgbnocfkkhngmaaDoor
set_option linter.unusedVariables false
set_option linter.unusedSimpArgs false
open Go.RowKit
theorem Tryd.infoInt : (Tryd.prog.info? 3).map (fun i => (i.zero, i.size, i.bytes)) = some (some (.int .i64 0), 1, 8) := by kernel_rfl

/-- the row after k rounds of copying -/
def copied (xs : List Int) (k : Nat) : List Value := (xs.take k).map (Value.int .i64) ++ List.replicate (xs.length - k) (.int .i64 0)
theorem copied_zero (xs : List Int) : copied xs 0 = (madeCells #[.int .i64 0] xs.length).toList := by simp [copied, toList_madeCells_one]
theorem copied_length (xs : List Int) (k : Nat) (hk : k ≤ xs.length) : (copied xs k).length = xs.length := by simp [copied]; omega
theorem copied_all (xs : List Int) : copied xs xs.length = xs.map (Value.int .i64) := by simp [copied]
theorem copied_get (xs : List Int) (k : Nat) (hk : k < xs.length) : (copied xs k)[k]? = some (.int .i64 0) := by
  unfold copied
  rw [List.getElem?_append_right (by simp; omega)]
  simp [Nat.min_eq_left (Nat.le_of_lt hk), List.getElem?_replicate]; omega
theorem copied_succ (xs : List Int) (k : Nat) (hk : k < xs.length) : (copied xs k).set k (.int .i64 xs[k]) = copied xs (k + 1) := by
  unfold copied
  rw [List.set_append_right _ _ (by simp; omega)]
  simp only [List.length_map, List.length_take, Nat.min_eq_left (Nat.le_of_lt hk), Nat.sub_self]
  obtain ⟨m, hm⟩ : ∃ m, xs.length - k = m + 1 := ⟨xs.length - k - 1, by omega⟩
  rw [hm, List.replicate_succ, List.set_cons_zero, List.take_succ_eq_append_getElem hk, List.map_append, List.append_assoc]
  have : xs.length - (k + 1) = m := by omega
  rw [this]; rfl

/-- k, k + 1, .. -/
def marks (k : Int) (n : Nat) : List Value := (List.range n).map fun (i : Nat) => Value.int .i64 (k + i)
def marked (k : Int) (xs : List Value) (j : Nat) : List Value := marks k j ++ xs.drop j
theorem marked_zero (k : Int) (xs : List Value) : marked k xs 0 = xs := by simp [marked, marks]
theorem marked_all (k : Int) (xs : List Value) : marked k xs xs.length = marks k xs.length := by simp [marked]
theorem marked_set (k : Int) (xs : List Value) (j : Nat) (hj : j < xs.length) : (marked k xs j).set j (.int .i64 (k + j)) = marked k xs (j + 1) := by
  unfold marked
  rw [List.set_append_right _ _ (by simp [marks])]
  simp only [marks, List.length_map, List.length_range, Nat.sub_self]
  rw [List.drop_eq_getElem_cons hj, List.set_cons_zero, List.range_succ, List.map_append, List.append_assoc]; rfl
theorem marked_get (k : Int) (xs : List Value) (j : Nat) (hj : j < xs.length) : (marked k xs j)[j]? = some xs[j] := by
  unfold marked
  rw [List.getElem?_append_right (by simp [marks])]
  simp [marks, hj]

end Go.Proofs.YtgbnocfkkhngmaaDoor
