/- ParseRat: plain laws. -/
import Derived.Test.YtehhpkeabckdaaaGreatDoorFmtRS
import Derived.Test.YtehhpkeabckdaaaGreatDoorPBigS
import Derived.Test.YtehhpkeabckdaaaGreatDoorSpLaw
import Derived.Lib.IndexMore
namespace Go.Proofs.YtehhpkeabckdaaaGreatDoor
set_option linter.unusedVariables false
set_option linter.unusedSimpArgs false
open Go.RowKit
def prL (s : ByteArray) : List UInt8 × List UInt8 × Bool := Lib.cut s.data.toList [47]
def prN (s : ByteArray) : ByteArray := ⟨(prL s).1.toArray⟩
def prC (s : ByteArray) : ByteArray := ⟨(prL s).2.1.toArray⟩
def prH (s : ByteArray) : Bool := (prL s).2.2
def prD (s : ByteArray) : ByteArray := if prH s then prC s else ⟨#[49]⟩
def prF (s t : ByteArray) : ByteArray := fmtRat (pbV (prN s)).neg (pbV (prN s)).mag (pnD t)
def prOk (s : ByteArray) : Bool := pbOk (prN s) && pnOk (prD s) && decide (prF s (prD s) = s)
def prV (s : ByteArray) : RA := if prOk s then ⟨(pbV (prN s)).neg, (pbV (prN s)).mag, pnD (prD s)⟩ else zeroRA
theorem pr_yes {s : ByteArray} (h : prOk s = true) : prV s = ⟨(pbV (prN s)).neg, (pbV (prN s)).mag, pnD (prD s)⟩ := if_pos h
theorem pr_no {s : ByteArray} (h : prOk s = false) : prV s = zeroRA := if_neg (by rw [h]; exact Bool.false_ne_true)
theorem prV_len (s : ByteArray) : (prV s).num.length ≤ 1048576 ∧ (prV s).den.length ≤ 1048576 := by
  cases h : prOk s with
  | true =>
    have h1 := pbV_len (prN s)
    have h2 := pnD_len (prD s)
    rw [pr_yes h]
    exact ⟨Nat.le_trans h1 (by decide), Nat.le_trans h2 (by decide)⟩
  | false => rw [pr_no h]; exact ⟨Nat.zero_le _, Nat.zero_le _⟩
theorem cut_off {l : List UInt8} (h : Lib.indexByte l 47 = -1) : Lib.cut l [47] = (l, [], false) := by
  unfold Lib.cut
  rw [index_one, h, if_neg (by decide)]
theorem cut_at {l : List UInt8} {o : Nat} (h : Lib.indexByte l 47 = o) : Lib.cut l [47] = (l.take o, l.drop (o + 1), true) := by
  unfold Lib.cut
  rw [index_one, h, if_pos (by omega), Int.toNat_natCast]; rfl
theorem index_or (l : List UInt8) : Lib.indexByte l 47 = -1 ∨ ∃ o : Nat, Lib.indexByte l 47 = o := by
  have := Lib.indexByte_ge l 47
  by_cases h : Lib.indexByte l 47 = -1
  · exact .inl h
  · exact .inr ⟨(Lib.indexByte l 47).toNat, by omega⟩
theorem of_data (s : ByteArray) : (⟨s.data.toList.toArray⟩ : ByteArray) = s := Go.WideShapes.bytes_inj (by simp)
theorem pr_miss {s : ByteArray} (h : Lib.indexByte s.data.toList 47 = -1) : prN s = s ∧ prH s = false ∧ splitAny s ⟨#[47]⟩ = [s] := by
  unfold prN prH prL
  rw [cut_off h]
  refine ⟨of_data s, rfl, map_bytes_inj ?_⟩
  rw [splitAny_one, splitL_miss (Lib.indexByte_none h)]; rfl
theorem not_dig {l : List UInt8} {k : Nat} (h : l[k]? = some 47) : isDigits ⟨l.toArray⟩ = false := by
  unfold isDigits
  have : allDig (⟨l.toArray⟩ : ByteArray).data.toList = false := by
    show allDig l = false
    unfold allDig
    rw [Bool.eq_false_iff]
    intro e
    have h1 := List.all_eq_true.1 e 47 (List.mem_of_getElem? h)
    exact absurd h1 (by decide)
  rw [this]; rfl
theorem count_pos {l : List UInt8} {k : Nat} (h : l[k]? = some 47) : 1 ≤ l.count 47 := List.count_pos_iff.2 (List.mem_of_getElem? h)
theorem map_mk (X : List (List UInt8)) : (X.map (fun l => (⟨l.toArray⟩ : ByteArray))).map (·.data.toList) = X := by
  induction X with
  | nil => rfl
  | cons x X ih => rw [List.map_cons, List.map_cons, ih]
theorem pr_hit {s : ByteArray} {o : Nat} (h : Lib.indexByte s.data.toList 47 = o) : prH s = true ∧ ∃ t ts, splitAny s ⟨#[47]⟩ = prN s :: t :: ts ∧ (t = prD s ∨ (pnOk (prD s) = false ∧ 2 ≤ s.data.toList.count 47)) := by
  obtain ⟨h1, h2⟩ := Lib.indexByte_some h
  have hL : prL s = (s.data.toList.take o, s.data.toList.drop (o + 1), true) := cut_at h
  have hH : prH s = true := by unfold prH; rw [hL]
  have hN : prN s = ⟨(s.data.toList.take o).toArray⟩ := by unfold prN; rw [hL]
  have hD : prD s = ⟨(s.data.toList.drop (o + 1)).toArray⟩ := by unfold prD; rw [hH, if_pos rfl]; unfold prC; rw [hL]
  have hS := splitL_hit h1 h2
  refine ⟨hH, ?_⟩
  rcases index_or (s.data.toList.drop (o + 1)) with h3 | ⟨o2, h3⟩
  · refine ⟨prD s, [], map_bytes_inj ?_, .inl rfl⟩
    rw [splitAny_one, hS, splitL_miss (Lib.indexByte_none h3), hN, hD]; rfl
  · obtain ⟨h4, h5⟩ := Lib.indexByte_some h3
    refine ⟨⟨((s.data.toList.drop (o + 1)).take o2).toArray⟩, (splitL 47 ((s.data.toList.drop (o + 1)).drop (o2 + 1))).map (fun l => ⟨l.toArray⟩), map_bytes_inj ?_, .inr ⟨?_, ?_⟩⟩
    · rw [splitAny_one, hS, splitL_hit h4 h5, hN, List.map_cons, List.map_cons, map_mk]
    · rw [hD]; exact pnOk_dig (not_dig h4)
    · have hlt : o < s.data.toList.length := (List.getElem?_eq_some_iff.1 h1).1
      have e : s.data.toList = s.data.toList.take o ++ 47 :: s.data.toList.drop (o + 1) := by
        conv => lhs; rw [← List.take_append_drop o s.data.toList]
        rw [List.drop_eq_getElem_cons hlt]
        have : s.data.toList[o] = 47 := by
          rw [List.getElem?_eq_getElem hlt] at h1
          exact Option.some.inj h1
        rw [this]
      rw [e, List.count_append, List.count_cons_self]
      have := count_pos h4
      omega
theorem dig_count {l : List UInt8} (h : allDig l = true) : l.count 47 = 0 := by
  rw [List.count_eq_zero]
  intro hm
  have := List.all_eq_true.1 h 47 hm
  exact absurd this (by decide)
theorem fmtNat_count (xs : List Int) : (fmtNat xs).data.toList.count 47 = 0 := by
  unfold fmtNat
  split
  · exact dig_count (allDig_dec _)
  · rfl
theorem app_data (a b : ByteArray) : (a ++ b).data.toList = a.data.toList ++ b.data.toList := by rw [ByteArray.data_append, Array.toList_append]
theorem fmtBig_count (n : Bool) (xs : List Int) : (fmtBig n xs).data.toList.count 47 = 0 := by
  unfold fmtBig
  split
  · split
    · rw [app_data, List.count_append, fmtNat_count]; rfl
    · exact fmtNat_count xs
  · rfl
theorem fmtRat_count (n : Bool) (xs ds : List Int) : (fmtRat n xs ds).data.toList.count 47 ≤ 1 := by
  unfold fmtRat
  split
  · split
    · rw [fmtBig_count]; omega
    · rw [app_data, app_data, List.count_append, List.count_append, fmtBig_count, fmtNat_count]
      exact Nat.le_refl _
  · exact Nat.zero_le _
/-- the reference's test comes to the same -/
theorem pr_same {s t : ByteArray} (h : t = prD s ∨ (pnOk (prD s) = false ∧ 2 ≤ s.data.toList.count 47)) (h1 : pbOk (prN s) = true) (h2 : pnOk t = true) (h3 : prF s t = s) : prOk s = true ∧ t = prD s := by
  rcases h with h | ⟨_, h⟩
  · subst h
    unfold prOk
    rw [h1, h2, decide_eq_true h3]
    exact ⟨rfl, rfl⟩
  · exfalso
    have := fmtRat_count (pbV (prN s)).neg (pbV (prN s)).mag (pnD t)
    rw [show fmtRat (pbV (prN s)).neg (pbV (prN s)).mag (pnD t) = s from h3] at this
    omega
theorem pr_n1 {s : ByteArray} (h : pbOk (prN s) = false) : prOk s = false := by unfold prOk; rw [h]; rfl
theorem pr_n2 {s t : ByteArray} (h : t = prD s ∨ (pnOk (prD s) = false ∧ 2 ≤ s.data.toList.count 47)) (h2 : pnOk t = false) : prOk s = false := by
  have : pnOk (prD s) = false := by
    rcases h with h | h
    · rw [← h]; exact h2
    · exact h.1
  unfold prOk
  rw [this]; simp
theorem pr_n3 {s t : ByteArray} (h : t = prD s ∨ (pnOk (prD s) = false ∧ 2 ≤ s.data.toList.count 47)) (h3 : ¬ prF s t = s) : prOk s = false := by
  rcases h with h | h
  · subst h
    unfold prOk
    rw [decide_eq_false h3]; simp
  · unfold prOk
    rw [h.1]; simp
theorem pr_ne {s : ByteArray} (h : pbOk (prN s) = true) : s.toList.isEmpty = false := by
  refine not_empty ?_
  rcases Nat.eq_zero_or_pos s.size with h0 | h0
  · exfalso
    have e : s = ⟨#[]⟩ := empty_of (by omega)
    rw [e] at h
    exact absurd h (by decide)
  · exact h0
theorem prN_size (s : ByteArray) : (prN s).size ≤ s.size := by
  have hlen : s.data.toList.length = s.size := by rw [Array.length_toList]; rfl
  rcases index_or s.data.toList with h | ⟨o, h⟩
  · rw [(pr_miss h).1]; exact Nat.le_refl _
  · have hL : prL s = (s.data.toList.take o, s.data.toList.drop (o + 1), true) := cut_at h
    unfold prN
    rw [hL]
    show (s.data.toList.take o).toArray.size ≤ s.size
    rw [List.size_toArray, List.length_take]; omega
theorem prD_size (s : ByteArray) (hs : s.size ≤ 1048576) : (prD s).size ≤ 1048576 := by
  have hlen : s.data.toList.length = s.size := by rw [Array.length_toList]; rfl
  unfold prD
  split
  · rcases index_or s.data.toList with h | ⟨o, h⟩
    · have hL : prL s = (s.data.toList, [], false) := cut_off h
      unfold prC
      rw [hL]; exact Nat.zero_le _
    · have hL : prL s = (s.data.toList.take o, s.data.toList.drop (o + 1), true) := cut_at h
      unfold prC
      rw [hL]
      show (s.data.toList.drop (o + 1)).toArray.size ≤ _
      rw [List.size_toArray, List.length_drop]; omega
  · exact (by decide : (1 : Nat) ≤ 1048576)
theorem pn_one : pnOk ⟨#[49]⟩ = true ∧ pnD ⟨#[49]⟩ = [1] := by
  have h : pnOk ⟨#[49]⟩ = true := by decide
  refine ⟨h, ?_⟩
  rw [pnD_yes h]
  show digs (rd [49]) = [1]
  rw [show rd [49] = 1 from rfl, digs_pos (by decide), show (1 : Nat) / 1000000000 = 0 from rfl, digs_zero]; rfl
end Go.Proofs.YtehhpkeabckdaaaGreatDoor
