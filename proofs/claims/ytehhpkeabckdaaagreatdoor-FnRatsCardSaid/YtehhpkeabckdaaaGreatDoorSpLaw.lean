/- Splitting at one byte: the reference's way and strings.Split's agree. -/
import Derived.Test.YtehhpkeabckdaaaGreatDoorSplitW
import Derived.Lib.Split
import Derived.Lib.SplitLaws
import Derived.Lib.CountLaws
import Derived.Lib.IndexLaws
import Derived.Lib.CutLaws
namespace Go.Proofs.YtehhpkeabckdaaaGreatDoor
set_option linter.unusedVariables false
set_option linter.unusedSimpArgs false
open Go.RowKit
def splitL (c : UInt8) : List UInt8 → List (List UInt8)
  | [] => [[]]
  | b :: r => if b = c then [] :: splitL c r else match splitL c r with
    | [] => [[b]]
    | x :: t => (b :: x) :: t
theorem splitL_miss {c : UInt8} : ∀ {l : List UInt8}, (∀ k : Nat, l[k]? ≠ some c) → splitL c l = [l]
  | [], _ => rfl
  | b :: r, h => by
    have h0 : b ≠ c := fun e => h 0 (by rw [e]; rfl)
    have h1 := splitL_miss (c := c) (l := r) (fun k => by have := h (k + 1); simpa using this)
    rw [splitL, if_neg h0, h1]
theorem splitL_hit {c : UInt8} : ∀ {i : Nat} {l : List UInt8}, l[i]? = some c → (∀ k : Nat, k < i → l[k]? ≠ some c) → splitL c l = l.take i :: splitL c (l.drop (i + 1))
  | 0, [], h, _ => by simp at h
  | 0, b :: r, h, _ => by
    have : b = c := by simpa using h
    rw [splitL, if_pos this]; rfl
  | i + 1, [], h, _ => by simp at h
  | i + 1, b :: r, h, hn => by
    have h0 : b ≠ c := fun e => hn 0 (by omega) (by rw [e]; rfl)
    have h1 := splitL_hit (c := c) (i := i) (l := r) (by simpa using h) (fun k hk => by have := hn (k + 1) (by omega); simpa using this)
    rw [splitL, if_neg h0, h1]
    simp
theorem index_one (l : List UInt8) (c : UInt8) : Lib.index l [c] = Lib.indexByte l c := by
  induction l with
  | nil => rfl
  | cons b l ih =>
    rw [Lib.index, Lib.indexByte, ih]
    have e : ([c] : List UInt8).isPrefixOf (b :: l) = (b == c) := by
      simp only [List.isPrefixOf, Bool.and_true]
      rw [Bool.eq_iff_iff]
      simp
      exact ⟨fun h => h.symm, fun h => h.symm⟩
    rw [e]
theorem ext_l (s : ByteArray) (f e : Nat) : (s.extract f e).data.toList = (s.data.toList.take e).drop f := by
  rw [ByteArray.data_extract, Array.toList_extract, List.extract_eq_take_drop, List.drop_take]
theorem splitB_one (c : UInt8) : ∀ (n : Nat) (s : ByteArray), s.size ≤ n → (Lib.splitB ⟨#[c]⟩ 0 (Lib.countB s ⟨#[c]⟩) s).map (·.data.toList) = splitL c s.data.toList := by
  intro n
  induction n with
  | zero =>
    intro s hs
    have h0 : s.data.toList = [] := by
      apply List.eq_nil_of_length_eq_zero
      rw [Array.length_toList]
      have : s.data.size = s.size := rfl
      omega
    have hi : Lib.indexB s ⟨#[c]⟩ = -1 := by
      show Lib.index s.data.toList [c] = -1
      rw [h0]; rfl
    rw [Lib.countB_miss _ _ hi, Lib.splitB_zero, List.map_cons, List.map_nil, h0]; rfl
  | succ n ih =>
    intro s hs
    have hx : Lib.indexB s ⟨#[c]⟩ = Lib.indexByte s.data.toList c := index_one s.data.toList c
    rcases Lib.indexB_cases s ⟨#[c]⟩ with hi | ⟨i, hi, hroom⟩
    · rw [Lib.countB_miss _ _ hi, Lib.splitB_zero, List.map_cons, List.map_nil, splitL_miss (Lib.indexByte_none (hx.symm.trans hi))]
    · obtain ⟨h1, h2⟩ := Lib.indexByte_some (hx.symm.trans hi)
      have hone : (⟨#[c]⟩ : ByteArray).size = 1 := rfl
      rw [hone] at hroom
      have hrest : (s.extract (i + (⟨#[c]⟩ : ByteArray).size) s.size).data.toList = s.data.toList.drop (i + 1) := by
        rw [ext_l, List.take_of_length_le (by simp), hone]
      rw [Lib.countB_hit s ⟨#[c]⟩ i (by rw [hone]; exact Nat.le_refl _) hi, Nat.add_comm 1, Lib.splitB_hit _ _ _ _ i hi, List.map_cons, ih _ (by rw [hone, ByteArray.size_extract]; omega), hrest, splitL_hit h1 h2, Nat.add_zero, ext_l, List.drop_zero]
theorem one_has (c b : UInt8) : (⟨#[c]⟩ : ByteArray).data.toList.contains b = decide (b = c) := by
  show ([c] : List UInt8).contains b = _
  rw [Bool.eq_iff_iff]
  simp
theorem splitStep_one (c : UInt8) (s : ByteArray) : ∀ k, k ≤ s.size → splitL c s.data.toList = ((splitStep s ⟨#[c]⟩ k).1.map (·.data.toList)) ++ splitL c (s.data.toList.drop (splitStep s ⟨#[c]⟩ k).2) ∧ ∀ j, (splitStep s ⟨#[c]⟩ k).2 ≤ j → j < k → s.data.toList[j]? ≠ some c
  | 0, _ => ⟨by simp [splitStep], fun j _ h => by omega⟩
  | k + 1, h => by
    obtain ⟨h1, h2⟩ := splitStep_one c s k (by omega)
    have hf := splitStep_from s ⟨#[c]⟩ k
    have hk : k < s.data.toList.length := by rw [Array.length_toList]; have : s.data.size = s.size := rfl; omega
    by_cases hc : (⟨#[c]⟩ : ByteArray).data.toList.contains (s.data.toList.getD k 0) = true
    · rw [splitStep_hit hc]
      rw [one_has, decide_eq_true_eq, List.getD_eq_getElem?_getD, List.getElem?_eq_getElem hk, Option.getD_some] at hc
      refine ⟨?_, fun j a b => by simp at a; omega⟩
      rw [h1]
      have e1 : (s.data.toList.drop (splitStep s ⟨#[c]⟩ k).2)[k - (splitStep s ⟨#[c]⟩ k).2]? = some c := by
        rw [List.getElem?_drop, show (splitStep s ⟨#[c]⟩ k).2 + (k - (splitStep s ⟨#[c]⟩ k).2) = k by omega, List.getElem?_eq_getElem hk, hc]
      rw [splitL_hit e1 (fun j hj => by rw [List.getElem?_drop]; exact h2 _ (by omega) (by omega)), List.drop_drop, show (splitStep s ⟨#[c]⟩ k).2 + (k - (splitStep s ⟨#[c]⟩ k).2 + 1) = k + 1 by omega]
      simp only [List.map_append, List.map_cons, List.map_nil, List.append_assoc, List.singleton_append]
      rw [ext_l, List.drop_take]
    · have hc' := Bool.eq_false_iff.2 hc
      rw [splitStep_miss hc']
      rw [one_has, decide_eq_true_eq, List.getD_eq_getElem?_getD, List.getElem?_eq_getElem hk, Option.getD_some] at hc
      refine ⟨h1, fun j a b => ?_⟩
      by_cases hj : j = k
      · subst hj
        rw [List.getElem?_eq_getElem hk]
        simpa using hc
      · exact h2 j a (by omega)
theorem splitAny_one (c : UInt8) (s : ByteArray) : (splitAny s ⟨#[c]⟩).map (·.data.toList) = splitL c s.data.toList := by
  obtain ⟨h1, h2⟩ := splitStep_one c s s.size (Nat.le_refl _)
  have hlen : s.data.toList.length = s.size := by rw [Array.length_toList]; rfl
  rw [h1, splitL_miss (l := s.data.toList.drop (splitStep s ⟨#[c]⟩ s.size).2) (fun k => by
    rw [List.getElem?_drop]
    by_cases hk : (splitStep s ⟨#[c]⟩ s.size).2 + k < s.size
    · exact h2 _ (by omega) hk
    · rw [List.getElem?_eq_none (by omega)]; simp)]
  unfold splitAny
  rw [List.map_append, List.map_cons, List.map_nil, ext_l, List.take_of_length_le (by omega)]
theorem map_bytes_inj {xs ys : List ByteArray} (h : xs.map (·.data.toList) = ys.map (·.data.toList)) : xs = ys := by
  induction xs generalizing ys with
  | nil => cases ys with
    | nil => rfl
    | cons y ys => simp at h
  | cons x xs ih => cases ys with
    | nil => simp at h
    | cons y ys =>
      simp only [List.map_cons, List.cons.injEq] at h
      rw [Go.WideShapes.bytes_inj h.1, ih h.2]
theorem piece_size (s t : ByteArray) (x : ByteArray) (hx : x ∈ splitAny s t) : x.size ≤ s.size := by
  have hst : ∀ k, ∀ y ∈ (splitStep s t k).1, y.size ≤ s.size := by
    intro k
    induction k with
    | zero => intro y hy; simp [splitStep] at hy
    | succ k ih =>
      intro y hy
      by_cases hc : t.data.toList.contains (s.data.toList.getD k 0) = true
      · rw [splitStep_hit hc, List.mem_append, List.mem_singleton] at hy
        rcases hy with hy | hy
        · exact ih y hy
        · rw [hy, ByteArray.size_extract]; omega
      · rw [splitStep_miss (Bool.eq_false_iff.2 hc)] at hy
        exact ih y hy
  unfold splitAny at hx
  rw [List.mem_append, List.mem_singleton] at hx
  rcases hx with hx | hx
  · exact hst _ x hx
  · rw [hx, ByteArray.size_extract]; omega
/-- strings.Split at one byte is SplitAny. -/
theorem split_same (c : UInt8) (s : ByteArray) : Lib.splitB ⟨#[c]⟩ 0 (Lib.countB s ⟨#[c]⟩) s = splitAny s ⟨#[c]⟩ := map_bytes_inj ((splitB_one c s.size s (Nat.le_refl _)).trans (splitAny_one c s).symm)
end Go.Proofs.YtehhpkeabckdaaaGreatDoor
