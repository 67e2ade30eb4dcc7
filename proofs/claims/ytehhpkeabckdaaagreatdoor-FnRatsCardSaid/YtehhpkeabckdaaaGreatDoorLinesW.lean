/- SplitLines. -/
import Derived.Test.YtehhpkeabckdaaaGreatDoorSpLaw
import Derived.Test.YtehhpkeabckdaaaGreatDoorShelf
namespace Go.Proofs.YtehhpkeabckdaaaGreatDoor
set_option linter.unusedVariables false
set_option linter.unusedSimpArgs false
open Go.RowKit
def lastE (xs : List ByteArray) : Bool := (xs.getLastD ⟨#[1]⟩).toList.isEmpty
def cutE (xs : List ByteArray) : List ByteArray := if lastE xs then xs.take (xs.length - 1) else xs
def splitLines (s : ByteArray) : List ByteArray := cutE (splitAny s ⟨#[10]⟩)
theorem cutE_len (xs : List ByteArray) : (cutE xs).length ≤ xs.length := by
  unfold cutE
  split
  · rw [List.length_take]; omega
  · exact Nat.le_refl _
theorem splitLines_len {s : ByteArray} (h : s.size ≤ 1048576) : (splitLines s).length ≤ 2000000 := Nat.le_trans (cutE_len _) (splitAny_len h)
theorem splitAny_pos (s t : ByteArray) : 0 < (splitAny s t).length := by unfold splitAny; rw [List.length_append]; simp
theorem getLast_at {xs : List ByteArray} (h : 0 < xs.length) (d : ByteArray) : xs.getLastD d = xs[xs.length - 1] := by
  rw [List.getLastD_eq_getLast?, List.getLast?_eq_getElem?, List.getElem?_eq_getElem (by omega)]; rfl
theorem ownStr_take {w : World} {lo : Nat} {a : Option Addr} {cap : Nat} {xs : List ByteArray} (h : OwnStr w lo (.slice a xs.length cap) xs) {k : Nat} (hk : k ≤ xs.length) : OwnStr w lo (.slice a (xs.take k).length cap) (xs.take k) := by
  have h' : w.ownsRow lo 9 1 (.slice a xs.length cap) xs.length (xs.map Value.string) := h
  refine ⟨by simp, ?_⟩
  rcases h'.2 with ⟨hv, h0⟩ | ⟨g, cap', cur, hv, hb, hg, hnc, hcm, hcs, ht⟩
  · left
    simp only [Value.slice.injEq] at hv
    obtain ⟨rfl, h1, rfl⟩ := hv
    have : (xs.take k).length = 0 := by simp; omega
    exact ⟨by rw [this], this⟩
  · right
    simp only [Value.slice.injEq, true_and] at hv
    obtain ⟨rfl, rfl⟩ := hv
    refine ⟨g, cap, cur, rfl, hb, hg, by simp; omega, hcm, hcs, ?_⟩
    rw [List.map_take, ← ht]
    simp [List.take_take]
theorem OwnS.take {w : World} {lo hi : Nat} {a : Option Addr} {cap : Nat} {xs : List ByteArray} (h : OwnS w lo hi (.slice a xs.length cap) xs) {k : Nat} (hk : k ≤ xs.length) : OwnS w lo hi (.slice a (xs.take k).length cap) (xs.take k) :=
  ⟨ownStr_take h.1 hk, fun q hq => h.2 q (by cases a with | none => cases hq | some b => exact hq)⟩
/-- the library's longest needle: some int -/
def MaxVar (w : World) : Prop := ∃ m : Int, w.cell? ⟨0, 0, none⟩ = some (.int .i64 m)
theorem MaxVar.below {w w' : World} (h : MaxVar w) (b : Below w.heap.size w w') : MaxVar w' := by
  obtain ⟨m, h⟩ := h
  exact ⟨m, (b.cell (p := ⟨0, 0, none⟩) (World.block_lt_of_cell? w _ h)).trans h⟩
end Go.Proofs.YtehhpkeabckdaaaGreatDoor
