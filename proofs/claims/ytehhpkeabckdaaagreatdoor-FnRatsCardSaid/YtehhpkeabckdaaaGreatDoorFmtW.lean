/- FormatNat: the text of a natural number. The reference. -/
import Derived.Test.YtehhpkeabckdaaaGreatDoorDecT
import Derived.Test.YtehhpkeabckdaaaGreatDoorK2
import Derived.Test.YtehhpkeabckdaaaGreatDoorK3
namespace Go.Proofs.YtehhpkeabckdaaaGreatDoor
set_option linter.unusedVariables false
set_option linter.unusedSimpArgs false
open Go.RowKit
def fmtNat (xs : List Int) : ByteArray := if natOkB xs then ⟨(Lib.decDigits (val xs)).toArray⟩ else ByteArray.empty
/-- the text of the limbs from place k on -/
def dT (xs : List Int) (k : Nat) : ByteArray := ⟨(Lib.decDigits (val (xs.drop k))).toArray⟩
theorem fmtNat_ok {xs : List Int} (h : natOkB xs = true) : fmtNat xs = dT xs 0 := by
  unfold fmtNat dT
  rw [if_pos h, List.drop_zero]
theorem fmtNat_no {xs : List Int} (h : natOkB xs = false) : fmtNat xs = ByteArray.empty := by
  unfold fmtNat
  rw [if_neg (by rw [h]; exact Bool.false_ne_true)]
theorem fmtNat_nil : fmtNat [] = ⟨#[48]⟩ := by
  rw [fmtNat_ok rfl]
  unfold dT
  rw [List.drop_nil, show val [] = 0 from rfl, decDigits_small (by decide)]
  rfl
theorem ok_last {xs : List Int} (h : natOkB xs = true) (hl : 0 < xs.length) : xs[xs.length - 1] ≠ 0 := by
  have h2 : lastOk xs = true := by
    unfold natOkB at h
    simp only [Bool.and_eq_true] at h
    exact h.1.2
  rw [lastOk_at hl] at h2
  simpa using h2
theorem val_drop_pos {xs : List Int} (h : natOkB xs = true) {k : Nat} (hk : k < xs.length) : 0 < val (xs.drop k) := by
  rcases Nat.eq_zero_or_pos (val (xs.drop k)) with h0 | h0
  · exfalso
    have hz := val_rng_zero ((ok_rng h).drop k) h0
    refine ok_last h (by omega) (hz _ ?_)
    rw [List.mem_iff_getElem]
    exact ⟨xs.length - 1 - k, by rw [List.length_drop]; omega, by rw [List.getElem_drop]; congr 1; omega⟩
  · exact h0
theorem dT_last {xs : List Int} (h : natOkB xs = true) (hl : 0 < xs.length) : itoaB xs[xs.length - 1] = dT xs (xs.length - 1) := by
  have hr := (ok_rng h).at (k := xs.length - 1) (by omega)
  unfold dT
  rw [val_drop (k := xs.length - 1) (by omega), show xs.length - 1 + 1 = xs.length by omega, List.drop_length, show val [] = 0 from rfl, Nat.mul_zero, Nat.add_zero]
  obtain ⟨n, hn⟩ : ∃ n : Nat, xs[xs.length - 1] = n := ⟨xs[xs.length - 1].toNat, by omega⟩
  rw [hn, itoaB_nat, Int.toNat_natCast]
theorem dT_step {xs : List Int} (h : natOkB xs = true) {q : Nat} (hq : q + 1 < xs.length) : dT xs (q + 1) ++ padB (itoaB xs[q]) 9 = dT xs q := by
  have hr := (ok_rng h).at (k := q) (by omega)
  unfold dT
  rw [dec_limb _ _ (val_drop_pos h hq) hr.1 hr.2, ← val_drop (by omega)]
theorem pw_ten (k : Nat) : pw k = 10 ^ (9 * k) := by
  unfold pw
  rw [show (1000000000 : Nat) = 10 ^ 9 from rfl, ← Nat.pow_mul]
theorem dT_size {xs : List Int} (h : natOkB xs = true) (k : Nat) : (dT xs k).size ≤ 541 := by
  have h60 : xs.length ≤ 60 := by
    unfold natOkB at h
    simp only [Bool.and_eq_true, decide_eq_true_eq] at h
    exact h.1.1
  have h1 := val_lt ((ok_rng h).drop k)
  rw [pw_ten, List.length_drop] at h1
  have h2 : val (xs.drop k) < 10 ^ (9 * (xs.length - k) + 1) := Nat.lt_of_lt_of_le h1 (Nat.pow_le_pow_right (by decide) (by omega))
  have h3 := dec_len _ _ (by omega) h2
  show (Lib.decDigits (val (xs.drop k))).toArray.size ≤ 541
  rw [List.size_toArray]; omega
theorem fmtNat_size (xs : List Int) : (fmtNat xs).size ≤ 541 := by
  cases h : natOkB xs with
  | true => rw [fmtNat_ok h]; exact dT_size h 0
  | false => rw [fmtNat_no h]; exact Nat.zero_le _
end Go.Proofs.YtehhpkeabckdaaaGreatDoor
