/- ParseInt: plain laws. -/
import Derived.Test.YtjklefkkdaelnaaDoorPBigS
import Derived.Lib.AtoiAllCases
namespace Go.Proofs.YtjklefkkdaelnaaDoor
set_option linter.unusedVariables false
set_option linter.unusedSimpArgs false
open Go.RowKit
def piN (s : ByteArray) : Int := if pbNeg s then -((rd (pbDig s).data.toList : Nat) : Int) else ((rd (pbDig s).data.toList : Nat) : Int)
def inI (n : Int) : Bool := decide (-9223372036854775808 ≤ n) && decide (n ≤ 9223372036854775807)
def piOk (s : ByteArray) : Bool := isDigits (pbDig s) && inI (piN s) && decide (itoaB (piN s) = s)
def piV (s : ByteArray) : Int := if piOk s then piN s else 0
theorem pi_yes {s : ByteArray} (h : piOk s = true) : piV s = piN s := if_pos h
theorem pi_no {s : ByteArray} (h : piOk s = false) : piV s = 0 := if_neg (by rw [h]; exact Bool.false_ne_true)
theorem inI_iff {n : Int} : inI n = true ↔ In64 n := by unfold inI In64; simp
theorem pi_parts {s : ByteArray} (h : piOk s = true) : isDigits (pbDig s) = true ∧ In64 (piN s) ∧ itoaB (piN s) = s := by
  unfold piOk at h
  simp only [Bool.and_eq_true, decide_eq_true_eq, inI_iff] at h
  exact ⟨h.1.1, h.1.2, h.2⟩
theorem pi_mk {s : ByteArray} (h1 : isDigits (pbDig s) = true) (h2 : In64 (piN s)) (h3 : itoaB (piN s) = s) : piOk s = true := by
  unfold piOk
  rw [h1, inI_iff.2 h2, decide_eq_true h3]; rfl
theorem pi_not1 {s : ByteArray} (h : isDigits (pbDig s) = false) : piOk s = false := by unfold piOk; rw [h]; rfl
theorem pi_not2 {s : ByteArray} (h : ¬ In64 (piN s)) : piOk s = false := by
  cases hk : piOk s with
  | false => rfl
  | true => exact absurd (pi_parts hk).2.1 h
theorem pi_not3 {s : ByteArray} (h : ¬ itoaB (piN s) = s) : piOk s = false := by
  cases hk : piOk s with
  | false => rfl
  | true => exact absurd (pi_parts hk).2.2 h
theorem mk_size (l : List UInt8) : (⟨l.toArray⟩ : ByteArray).size = l.length := List.size_toArray
theorem dec_first (m : Nat) : ∃ c r, Lib.decDigits m = c :: r ∧ digC c = true := by
  cases h : Lib.decDigits m with
  | nil => exact absurd h (dec_ne m)
  | cons c r =>
    have := allDig_dec m
    rw [h] at this
    unfold allDig at this
    simp only [List.all_cons, Bool.and_eq_true] at this
    exact ⟨c, r, rfl, this.1⟩
theorem isDigits_dec (m : Nat) : isDigits ⟨(Lib.decDigits m).toArray⟩ = true := by
  unfold isDigits
  have h1 := allDig_dec m
  have h2 := dec_pos_len m
  rw [mk_size, decide_eq_true h2]
  simpa using h1
/-- what is read of an int's own text -/
theorem itoa_read (n : Int) : pbNeg (itoaB n) = decide (n < 0) ∧ pbDig (itoaB n) = ⟨(Lib.decDigits n.natAbs).toArray⟩ ∧ piN (itoaB n) = n := by
  by_cases h : n < 0
  · obtain ⟨m, rfl⟩ : ∃ m : Nat, n = -(m : Int) := ⟨n.natAbs, by omega⟩
    rw [itoaB_neg m (by omega), Int.natAbs_neg, Int.natAbs_natCast, decide_eq_true h]
    have h1 : pbNeg ⟨(45 :: Lib.decDigits m).toArray⟩ = true := rfl
    have h2 : pbDig ⟨(45 :: Lib.decDigits m).toArray⟩ = ⟨(Lib.decDigits m).toArray⟩ := by
      unfold pbDig
      rw [h1, if_pos rfl]
      apply Go.WideShapes.bytes_inj
      rw [ByteArray.data_extract, Array.toList_extract, List.extract_eq_take_drop, mk_size]
      simp
    refine ⟨h1, h2, ?_⟩
    unfold piN
    rw [h1, if_pos rfl, h2]
    show -((rd (Lib.decDigits m) : Nat) : Int) = _
    rw [rd_dec]
  · obtain ⟨m, rfl⟩ : ∃ m : Nat, n = (m : Int) := ⟨n.natAbs, by omega⟩
    rw [itoaB_nat, Int.natAbs_natCast, decide_eq_false h]
    obtain ⟨c, r, hc, hd⟩ := dec_first m
    have h1 : pbNeg ⟨(Lib.decDigits m).toArray⟩ = false := by
      unfold pbNeg
      rw [hc]
      refine decide_eq_false ?_
      intro e
      have h45 : c = 45 := by simpa using e
      have := digC_iff.1 hd
      rw [h45] at this
      have h45' : (45 : UInt8).toNat = 45 := rfl
      omega
    have h2 : pbDig ⟨(Lib.decDigits m).toArray⟩ = ⟨(Lib.decDigits m).toArray⟩ := by unfold pbDig; rw [h1]; rfl
    refine ⟨h1, h2, ?_⟩
    unfold piN
    rw [h1, h2]
    show ((rd (Lib.decDigits m) : Nat) : Int) = _
    rw [rd_dec]
theorem itoa_ok {n : Int} (h : In64 n) : piOk (itoaB n) = true := by
  obtain ⟨_, h2, h3⟩ := itoa_read n
  refine pi_mk (by rw [h2]; exact isDigits_dec _) (by rw [h3]; exact h) (by rw [h3])
theorem pi_len {s : ByteArray} (h : piOk s = true) : (pbDig s).size ≤ 19 := by
  obtain ⟨_, h2, h3⟩ := pi_parts h
  have h4 := (itoa_read (piN s)).2.1
  rw [h3] at h4
  rw [h4, mk_size]
  exact dec_len 19 _ (by decide) (by unfold In64 at h2; omega)
theorem pi_not4 {s : ByteArray} (h : ¬ (pbDig s).size ≤ 19) : piOk s = false := by
  cases hk : piOk s with
  | false => rfl
  | true => exact absurd (pi_len hk) h
/-- the number from acc on -/
def rdA (acc : Nat) (l : List UInt8) : Nat := l.foldl (fun n c => 10 * n + (c.toNat - 48)) acc
theorem rdA_ge (l : List UInt8) (acc : Nat) : acc ≤ rdA acc l := by
  induction l generalizing acc with
  | nil => exact Nat.le_refl _
  | cons c l ih =>
    have h : rdA acc (c :: l) = rdA (10 * acc + (c.toNat - 48)) l := rfl
    have := ih (10 * acc + (c.toNat - 48))
    omega
theorem parse_rdA (l : List UInt8) (acc : Nat) (hd : allDig l = true) (h : rdA acc l < 18446744073709551616) : Lib.parseUint10 acc l = .ok (rdA acc l) := by
  induction l generalizing acc with
  | nil => rfl
  | cons c l ih =>
    unfold allDig at hd
    simp only [List.all_cons, Bool.and_eq_true] at hd
    have hc := digC_iff.1 hd.1
    have h1 : rdA acc (c :: l) = rdA (10 * acc + (c.toNat - 48)) l := rfl
    have h2 := rdA_ge l (10 * acc + (c.toNat - 48))
    rw [h1] at h ⊢
    rw [Lib.parseUint10, if_pos hc, if_neg (by omega), if_neg (by omega), Nat.mul_comm acc 10]
    exact ih _ hd.2 h
theorem atoi_itoa {n : Int} (h : In64 n) : Lib.atoiAll (itoaB n).data.toList = .ok n := by
  unfold In64 at h
  have hp : ∀ m : Nat, m ≤ 9223372036854775808 → Lib.parseMag (Lib.decDigits m) = .ok m := by
    intro m hm
    have e : rdA 0 (Lib.decDigits m) = m := rd_dec m
    unfold Lib.parseMag
    rw [if_neg (dec_ne m), parse_rdA _ _ (allDig_dec m) (by rw [e]; omega), e]
  by_cases h0 : n < 0
  · obtain ⟨m, rfl⟩ : ∃ m : Nat, n = -(m : Int) := ⟨n.natAbs, by omega⟩
    rw [itoaB_neg m (by omega)]
    show Lib.atoiAll (45 :: Lib.decDigits m) = _
    rw [Lib.atoiAll_minus, hp m (by omega)]
    show (if 9223372036854775808 < m then _ else _) = _
    rw [if_neg (by omega)]
  · obtain ⟨m, rfl⟩ : ∃ m : Nat, n = (m : Int) := ⟨n.natAbs, by omega⟩
    rw [itoaB_nat]
    show Lib.atoiAll (Lib.decDigits m) = _
    have hm := hp m (by omega)
    obtain ⟨c, r, hc, hd⟩ := dec_first m
    rw [hc] at hm ⊢
    have := digC_iff.1 hd
    rw [Lib.atoiAll_plain c r (by omega) (by omega), hm]
    show (if 9223372036854775808 ≤ m then _ else _) = _
    rw [if_neg (by omega)]
/-- how Atoi's answer and the text of it agree -/
theorem atoi_no {s : ByteArray} (h : ∀ v, Lib.atoiAll s.data.toList ≠ .ok v) : piOk s = false := by
  cases hk : piOk s with
  | false => rfl
  | true =>
    obtain ⟨_, h2, h3⟩ := pi_parts hk
    have := atoi_itoa h2
    rw [h3] at this
    exact absurd this (h _)
theorem atoi_same {s : ByteArray} {v : Int} (h : Lib.atoiAll s.data.toList = .ok v) (e : itoaB v = s) : piOk s = true ∧ piN s = v := by
  have hv := Lib.atoiAll_bounds h
  have h1 := itoa_ok (n := v) (by unfold In64; exact hv)
  have h2 := (itoa_read v).2.2
  rw [e] at h1 h2
  exact ⟨h1, h2⟩
theorem atoi_other {s : ByteArray} {v : Int} (h : Lib.atoiAll s.data.toList = .ok v) (e : ¬ itoaB v = s) : piOk s = false := by
  cases hk : piOk s with
  | false => rfl
  | true =>
    obtain ⟨_, h2, h3⟩ := pi_parts hk
    have h4 := atoi_itoa h2
    rw [h3, h] at h4
    injection h4 with h5
    rw [h5] at e
    exact absurd h3 e
theorem rd_take_le (l : List UInt8) (k : Nat) : rd (l.take k) ≤ rd l := by
  conv => rhs; rw [← List.take_append_drop k l]
  rw [rd_append]
  have : 0 < 10 ^ (l.drop k).length := Nat.pow_pos (by decide)
  have := Nat.le_mul_of_pos_right (rd (l.take k)) this
  omega
end Go.Proofs.YtjklefkkdaelnaaDoor
