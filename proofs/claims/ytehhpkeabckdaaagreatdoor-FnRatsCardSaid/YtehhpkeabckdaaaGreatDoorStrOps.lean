/- Slices of strings in a law: holding against, marking. -/
import Derived.Test.YtehhpkeabckdaaaGreatDoorStrs
import Derived.Laws.IdiomStrings
import Derived.Deep.RegionHeld3
namespace Go.Proofs.YtehhpkeabckdaaaGreatDoor
set_option linter.unusedVariables false
set_option linter.unusedSimpArgs false
open Go.RowKit
def dg (n : Nat) : UInt8 := UInt8.ofNat (48 + n % 10)
theorem dg_toNat (n : Nat) : (dg n).toNat = 48 + n % 10 := by unfold dg; simp; omega
/-- the decimal digits of a number; none for 0 -/
def dec (n : Nat) : List UInt8 := if h : n = 0 then [] else dec (n / 10) ++ [dg n]
decreasing_by exact Nat.div_lt_self (by omega) (by omega)
theorem dec_zero : dec 0 = [] := by rw [dec]; simp
theorem dec_pos {n : Nat} (h : 0 < n) : dec n = dec (n / 10) ++ [dg n] := by rw [dec]; simp [show n ≠ 0 by omega]
def mtext (k : Nat) : ByteArray := ⟨(109 :: dec k).toArray⟩
theorem conv_one (w : World) (m : Nat) : Sem.run Tryz.prog (convert 22 9 (.slice (some ⟨w.heap.size, 0, none⟩) 1 1)) (w.alloc (.cells #[.int .u8 (48 + (m : Int) % 10)] 5)) =
    .ok (.string ⟨[dg m].toArray⟩) (w.alloc (.cells #[.int .u8 (48 + (m : Int) % 10)] 5)) := by
  refine run_convert_bytes_back (P := Tryz.prog) _ 22 9 5 ⟨w.heap.size, 0, none⟩ 1 [dg m] Tryz.underlying22 Tryz.underlying5 Tryz.underlying9 ?_
  intro j hj
  have hj0 : j = 0 := by simp at hj; exact hj
  subst hj0
  have e := dg_toNat m
  rw [Go.WideShapes.add_plain, World.cell?_alloc_at _ _ _ _ rfl]
  simp [e]
theorem bytes_app (l r : List UInt8) : ((⟨l.toArray⟩ : ByteArray) ++ ⟨r.toArray⟩) = ⟨(l ++ r).toArray⟩ := by
  apply ByteArray.ext
  simp [ByteArray.data_append]
theorem cellD {W W' : World} {B j : Nat} {v : Value} (h : W.cell? ⟨B, j, none⟩ = some v) (b : Below W.drew.heap.size W.drew W') : W'.cell? ⟨B, j, none⟩ = some v := by
  rw [b.cell (p := ⟨B, j, none⟩) (World.block_lt_of_cell? W _ h)]; exact h
def smarks (k : Int) (n : Nat) : List Value := (List.range n).map fun (i : Nat) => Value.string (mtext (k + i).toNat)
def smarked (k : Int) (xs : List Value) (j : Nat) : List Value := smarks k j ++ xs.drop j
theorem smarked_zero (k : Int) (xs : List Value) : smarked k xs 0 = xs := by simp [smarked, smarks]
theorem smarked_all (k : Int) (xs : List Value) : smarked k xs xs.length = smarks k xs.length := by simp [smarked]
theorem smarked_set (k : Int) (xs : List Value) (j : Nat) (hj : j < xs.length) : (smarked k xs j).set j (.string (mtext (k + j).toNat)) = smarked k xs (j + 1) := by
  unfold smarked
  rw [List.set_append_right _ _ (by simp [smarks])]
  simp only [smarks, List.length_map, List.length_range, Nat.sub_self]
  rw [List.drop_eq_getElem_cons hj, List.set_cons_zero, List.range_succ, List.map_append, List.append_assoc]; rfl
def OwnS (w : World) (lo hi : Nat) (v : Value) (xs : List ByteArray) : Prop := OwnStr w lo v xs ∧ InR hi v
def MarkS (w : World) (lo hi : Nat) (v : Value) (n : Nat) (k : Int) : Prop := w.ownsRow lo 9 1 v n (smarks k n) ∧ InR hi v
section
variable {w w' : World} {lo hi lo2 hi2 : Nat} {u v : Value} {xs : List ByteArray} {n : Nat} {k : Int} {a : Option Addr} {c : Nat}
theorem srow_span {vs : List Value} (h : w.ownsRow lo 9 1 v n vs) (hh : InR hi v) (s : Span lo2 hi2 w w') (ho : hi ≤ lo2 ∨ hi2 ≤ lo) : w'.ownsRow lo 9 1 v n vs := by
  refine ⟨h.1, ?_⟩
  rcases h.2 with hn | ⟨g, cap, cur, rfl, hbg, hg, rest⟩
  · exact .inl hn
  · have hl := hh g (by simp [Value.ownBlock])
    exact .inr ⟨g, cap, cur, rfl, hbg, by rw [s.block g (Array.getElem?_eq_some_iff.1 hg).1 (by omega)]; exact hg, rest⟩
theorem OwnStr.toS (h : OwnStr w lo v xs) : OwnS w lo w.heap.size v xs := by
  have h' : w.ownsRow lo 9 1 v xs.length (xs.map Value.string) := h
  exact ⟨h, fun k hk => (h'.lt k hk).2⟩
theorem OwnS.below (h : OwnS w lo hi v xs) (b : Below w.heap.size w w') : OwnS w' lo hi v xs := ⟨h.1.below b, h.2⟩
theorem MarkS.below (h : MarkS w lo hi v n k) (b : Below w.heap.size w w') : MarkS w' lo hi v n k := ⟨ownsRow_below (e := 9) h.1 b, h.2⟩
theorem OwnS.mono (h : OwnS w lo hi v xs) (h1 : lo2 ≤ lo) (h2 : hi ≤ hi2) : OwnS w lo2 hi2 v xs := ⟨h.1.base h1, fun k hk => Nat.lt_of_lt_of_le (h.2 k hk) h2⟩
theorem OwnS.span (h : OwnS w lo hi v xs) (s : Span lo2 hi2 w w') (ho : hi ≤ lo2 ∨ hi2 ≤ lo) : OwnS w' lo hi v xs := ⟨srow_span h.1 h.2 s ho, h.2⟩
theorem MarkS.span (h : MarkS w lo hi v n k) (s : Span lo2 hi2 w w') (ho : hi ≤ lo2 ∨ hi2 ≤ lo) : MarkS w' lo hi v n k := ⟨srow_span h.1 h.2 s ho, h.2⟩
theorem OwnS.i1 (h : OwnS w lo hi (.slice a xs.length c) xs) : StrsAt w a c xs := by
  obtain ⟨a', c', e, h1⟩ := h.1.form
  simp only [Value.slice.injEq, true_and] at e
  obtain ⟨rfl, rfl⟩ := e
  exact h1
end
end Go.Proofs.YtehhpkeabckdaaaGreatDoor
