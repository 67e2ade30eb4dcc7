/- Slices of strings that a call reads or makes; the words for SplitAny. -/
import Derived.Test.YtehhpkeabckdaaaGreatDoorK1
namespace Go.Proofs.YtehhpkeabckdaaaGreatDoor
set_option linter.unusedVariables false
set_option linter.unusedSimpArgs false
open Go.RowKit

/-- The parts of a slice value of strings, of length xs.length, that reads as xs in w. -/
structure StrsAt (w : World) (a : Option Addr) (cap : Nat) (xs : List ByteArray) : Prop where
  room : xs.length ≤ cap
  small : cap ≤ maxLen
  nil0 : a = none → cap = 0
  at_ : xs = [] ∨ ∃ b off, a = some ⟨b, off, none⟩ ∧ b < w.heap.size ∧ ∀ j, j < xs.length → w.cell? ⟨b, off + j, none⟩ = some (.string (xs.getD j ByteArray.empty))
section
variable {w w' : World} {a : Option Addr} {cap : Nat} {xs : List ByteArray}
theorem StrsAt.below (h : StrsAt w a cap xs) (hb : Below w.heap.size w w') : StrsAt w' a cap xs := by
  refine ⟨h.room, h.small, h.nil0, ?_⟩
  rcases h.at_ with h | ⟨b, off, ha, hlt, hc⟩
  · exact .inl h
  · exact .inr ⟨b, off, ha, Nat.lt_of_lt_of_le hlt hb.size, fun j hj => by rw [hb.cell (p := ⟨b, off + j, none⟩) hlt]; exact hc j hj⟩
theorem StrsAt.get (h : StrsAt w a cap xs) {k : Nat} (hk : k < xs.length) : ∃ b off, a = some ⟨b, off, none⟩ ∧ w.cell? ⟨b, off + k, none⟩ = some (.string xs[k]) := by
  rcases h.at_ with h | ⟨b, off, ha, hlt, hc⟩
  · subst h; simp at hk
  · exact ⟨b, off, ha, by have := hc k hk; simpa [hk] using this⟩
end
/-- v is a slice of strings of the call's own: nil, or at the head of a row from block 'lo' on -/
def OwnStr (w : World) (lo : Nat) (v : Value) (xs : List ByteArray) : Prop := w.ownsRow lo 9 1 v xs.length (xs.map Value.string)
section
variable {w w' : World} {lo lo2 : Nat} {v : Value} {xs : List ByteArray}
theorem OwnStr.form (h : OwnStr w lo v xs) : ∃ a cap, v = .slice a xs.length cap ∧ StrsAt w a cap xs := by
  have h' : w.ownsRow lo 9 1 v xs.length (xs.map Value.string) := h
  obtain ⟨a, cap, rfl, h1, h2, h3⟩ := ownsRow_form h'
  refine ⟨a, cap, rfl, h1, h2, h3, ?_⟩
  rcases h'.2 with ⟨_, h0⟩ | ⟨g, cap', cur, hv, hb, hg, hnc, hcm, hcs, ht⟩
  · exact .inl (List.eq_nil_of_length_eq_zero h0)
  · simp only [Value.slice.injEq, true_and] at hv
    obtain ⟨rfl, rfl⟩ := hv
    refine .inr ⟨g, 0, rfl, (Array.getElem?_eq_some_iff.1 hg).1, fun j hj => ?_⟩
    have := h'.cellAt j (by omega)
    rw [Nat.zero_add, this]
    simp [hj]
theorem OwnStr.below (h : OwnStr w lo v xs) (b : Below w.heap.size w w') : OwnStr w' lo v xs := ownsRow_below (e := 9) h b
theorem OwnStr.base (h : OwnStr w lo v xs) (e : lo2 ≤ lo) : OwnStr w lo2 v xs := ownsRow_base (e := 9) h e
end
theorem Tryz.infoStr : (Tryz.prog.info? 9).map (fun i => (i.zero, i.size, i.bytes)) = some (some (.string ByteArray.empty), 1, 16) := by kernel_rfl
theorem ownStr_empty (w : World) : OwnStr (w.alloc (.cells #[] 9)) w.heap.size (.slice (some ⟨w.heap.size, 0, none⟩) 0 0) [] :=
  World.ownsRow_lit (base := w.heap.size) (size := 1) (e := 9) w #[] 0 (Nat.le_refl _) (by unfold maxLen; omega) rfl

/-- the pieces behind k bytes, and where the next one begins -/
def splitStep (s by_ : ByteArray) : Nat → List ByteArray × Nat
  | 0 => ([], 0)
  | k + 1 => if by_.data.toList.contains (s.data.toList.getD k 0) then ((splitStep s by_ k).1 ++ [s.extract (splitStep s by_ k).2 k], k + 1) else splitStep s by_ k
def splitAny (s by_ : ByteArray) : List ByteArray := (splitStep s by_ s.size).1 ++ [s.extract (splitStep s by_ s.size).2 s.size]
theorem splitStep_from (s by_ : ByteArray) (k : Nat) : (splitStep s by_ k).2 ≤ k := by
  induction k with
  | zero => exact Nat.le_refl _
  | succ k ih => unfold splitStep; split; exact Nat.le_refl _; omega
theorem splitStep_len (s by_ : ByteArray) (k : Nat) : (splitStep s by_ k).1.length ≤ k := by
  induction k with
  | zero => exact Nat.le_refl _
  | succ k ih => unfold splitStep; split; simp; exact ih; omega
theorem splitStep_hit {s by_ : ByteArray} {k : Nat} (h : by_.data.toList.contains (s.data.toList.getD k 0) = true) : splitStep s by_ (k + 1) = ((splitStep s by_ k).1 ++ [s.extract (splitStep s by_ k).2 k], k + 1) := by rw [splitStep, if_pos h]
theorem splitStep_miss {s by_ : ByteArray} {k : Nat} (h : by_.data.toList.contains (s.data.toList.getD k 0) = false) : splitStep s by_ (k + 1) = splitStep s by_ k := by rw [splitStep, if_neg (by rw [h]; exact Bool.false_ne_true)]
end Go.Proofs.YtehhpkeabckdaaaGreatDoor
