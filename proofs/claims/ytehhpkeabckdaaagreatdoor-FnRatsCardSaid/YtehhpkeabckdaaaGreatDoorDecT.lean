/- Decimal numerals: plain laws, and limbs of nine digits. -/
import Derived.Test.YtehhpkeabckdaaaGreatDoorFormW
import Derived.Test.YtehhpkeabckdaaaGreatDoorText
import Derived.Test.YtehhpkeabckdaaaGreatDoorPadW
import Derived.Test.YtehhpkeabckdaaaGreatDoorK1
namespace Go.Proofs.YtehhpkeabckdaaaGreatDoor
set_option linter.unusedVariables false
set_option linter.unusedSimpArgs false
open Go.RowKit
/-- the last k digits of r -/
def padD : Nat → Nat → List UInt8
  | 0, _ => []
  | k + 1, r => padD k (r / 10) ++ [dg r]
theorem padD_length (k r : Nat) : (padD k r).length = k := by
  induction k generalizing r with
  | zero => rfl
  | succ k ih => rw [padD, List.length_append, ih]; rfl
theorem padD_zero (k : Nat) : padD k 0 = List.replicate k 48 := by
  induction k with
  | zero => rfl
  | succ k ih => rw [padD, Nat.zero_div, ih, List.replicate_succ']; rfl
theorem dg_congr {a b : Nat} (h : a % 10 = b % 10) : dg a = dg b := by unfold dg; rw [h]
theorem dec_split (k v r : Nat) (hv : 0 < v) (hr : r < 10 ^ k) : Lib.decDigits (10 ^ k * v + r) = Lib.decDigits v ++ padD k r := by
  induction k generalizing r with
  | zero =>
    have : r = 0 := by simpa using hr
    subst this
    simp [padD]
  | succ k ih =>
    have h1 : 10 ^ (k + 1) * v = 10 * (10 ^ k * v) := by rw [Nat.pow_succ, Nat.mul_comm (10 ^ k) 10, Nat.mul_assoc]
    have hp : 0 < 10 ^ k * v := Nat.mul_pos (Nat.pow_pos (by decide)) hv
    rw [Nat.pow_succ] at hr
    rw [h1]
    generalize 10 ^ k * v = q at *
    rw [decDigits_big (by omega), show (10 * q + r) / 10 = q + r / 10 by omega, ih (r / 10) (by omega), padD, List.append_assoc, dg_congr (a := 10 * q + r) (b := r) (by omega)]
theorem padD_eq (k r : Nat) (hk : 0 < k) (hr : r < 10 ^ k) : padD k r = List.replicate (k - (Lib.decDigits r).length) 48 ++ Lib.decDigits r := by
  induction k generalizing r with
  | zero => omega
  | succ k ih =>
    by_cases h : r < 10
    · rw [padD, show r / 10 = 0 by omega, padD_zero, decDigits_small h]; rfl
    · have hk2 : 0 < k := by
        rcases Nat.eq_zero_or_pos k with h0 | h0
        · subst h0; simp at hr; omega
        · exact h0
      rw [Nat.pow_succ] at hr
      rw [padD, ih (r / 10) hk2 (by omega), decDigits_big h, List.length_append, List.append_assoc]
      congr 2
      simp
theorem dec_len (k m : Nat) (hk : 0 < k) (h : m < 10 ^ k) : (Lib.decDigits m).length ≤ k := by
  induction k generalizing m with
  | zero => omega
  | succ k ih =>
    by_cases h1 : m < 10
    · rw [decDigits_small h1]; simp
    · have hk2 : 0 < k := by
        rcases Nat.eq_zero_or_pos k with h0 | h0
        · subst h0; simp at h; omega
        · exact h0
      rw [Nat.pow_succ] at h
      rw [decDigits_big h1, List.length_append]
      have := ih (m / 10) hk2 (by omega)
      simp; omega
theorem dec_pos_len (m : Nat) : 0 < (Lib.decDigits m).length := by
  by_cases h : m < 10
  · rw [decDigits_small h]; simp
  · rw [decDigits_big h]; simp
theorem dec_ne (m : Nat) : Lib.decDigits m ≠ [] := fun h => by have := dec_pos_len m; rw [h] at this; simp at this
/-- a limb's text -/
theorem limb_text (x : Int) (h0 : 0 ≤ x) (h1 : x ≤ 999999999) : padB (itoaB x) 9 = ⟨(padD 9 x.toNat).toArray⟩ := by
  obtain ⟨n, rfl⟩ : ∃ n : Nat, x = n := ⟨x.toNat, by omega⟩
  have hn : n < 10 ^ 9 := by omega
  rw [itoaB_nat, padB, if_pos (by decide), Int.toNat_natCast, padD_eq 9 n (by decide) hn]
  unfold padL ByteArray.size
  simp
theorem limb_size (x : Int) (h0 : 0 ≤ x) (h1 : x ≤ 999999999) : (padB (itoaB x) 9).size = 9 := by
  rw [limb_text x h0 h1]
  show (padD 9 x.toNat).toArray.size = 9
  rw [List.size_toArray, padD_length]
/-- the text of a number: one limb more in front -/
theorem dec_limb (v : Nat) (x : Int) (hv : 0 < v) (h0 : 0 ≤ x) (h1 : x ≤ 999999999) :
    (⟨(Lib.decDigits v).toArray⟩ : ByteArray) ++ padB (itoaB x) 9 = ⟨(Lib.decDigits (x.toNat + 1000000000 * v)).toArray⟩ := by
  rw [limb_text x h0 h1, bytes_app, ← dec_split 9 v x.toNat hv (by omega)]
  congr 3
  omega
theorem itoa_size (x : Int) (h0 : 0 ≤ x) (h1 : x ≤ 999999999) : (itoaB x).size ≤ 9 := by
  obtain ⟨n, rfl⟩ : ∃ n : Nat, x = n := ⟨x.toNat, by omega⟩
  rw [itoaB_nat]
  show (Lib.decDigits n).toArray.size ≤ 9
  rw [List.size_toArray]
  exact dec_len 9 n (by decide) (by omega)

theorem snoc_ind {α : Type} {motive : List α → Prop} (nil : motive []) (snoc : ∀ l c, motive l → motive (l ++ [c])) (l : List α) : motive l := by
  rw [← l.reverse_reverse]
  induction l.reverse with
  | nil => exact nil
  | cons c l ih => rw [List.reverse_cons]; exact snoc _ _ ih
/-- the number that digits tell -/
def rd (l : List UInt8) : Nat := l.foldl (fun n c => 10 * n + (c.toNat - 48)) 0
theorem rd_nil : rd [] = 0 := rfl
theorem rd_snoc (l : List UInt8) (c : UInt8) : rd (l ++ [c]) = 10 * rd l + (c.toNat - 48) := by simp [rd]
theorem digC_iff {c : UInt8} : digC c = true ↔ 48 ≤ c.toNat ∧ c.toNat ≤ 57 := by
  unfold digC byteB inB
  simp
  try omega
theorem dg_of {c : UInt8} (h : digC c = true) {n : Nat} (hn : n % 10 = c.toNat - 48) : dg n = c := by
  obtain ⟨h1, h2⟩ := digC_iff.1 h
  apply UInt8.toNat_inj.1
  rw [dg_toNat]; omega
theorem digC_dg (n : Nat) : digC (dg n) = true := by
  rw [digC_iff, dg_toNat]; omega
theorem allDig_snoc {l : List UInt8} {c : UInt8} : allDig (l ++ [c]) = true ↔ allDig l = true ∧ digC c = true := by
  unfold allDig
  simp
theorem rd_lt {l : List UInt8} (h : allDig l = true) : rd l < 10 ^ l.length := by
  induction l using snoc_ind with
  | nil => simp [rd]
  | snoc l c ih =>
    obtain ⟨h1, h2⟩ := allDig_snoc.1 h
    obtain ⟨h3, h4⟩ := digC_iff.1 h2
    have := ih h1
    rw [rd_snoc, List.length_append, List.length_singleton, Nat.pow_succ]
    omega
theorem rd_append (a b : List UInt8) : rd (a ++ b) = rd a * 10 ^ b.length + rd b := by
  induction b using snoc_ind with
  | nil => simp [rd]
  | snoc b c ih =>
    rw [← List.append_assoc, rd_snoc, ih, rd_snoc, List.length_append, List.length_singleton, Nat.pow_succ, Nat.mul_add, ← Nat.mul_assoc, Nat.mul_comm 10 (rd a), Nat.mul_assoc, Nat.mul_comm 10 (10 ^ _), Nat.add_assoc]
theorem allDig_dec (m : Nat) : allDig (Lib.decDigits m) = true := by
  induction m using Nat.strongRecOn with
  | _ m ih =>
    by_cases h : m < 10
    · rw [decDigits_small h]
      have := digC_dg m
      simp [allDig, this]
    · rw [decDigits_big h]
      exact allDig_snoc.2 ⟨ih _ (by omega), digC_dg m⟩
theorem rd_dec (m : Nat) : rd (Lib.decDigits m) = m := by
  induction m using Nat.strongRecOn with
  | _ m ih =>
    by_cases h : m < 10
    · rw [decDigits_small h, show [dg m] = [] ++ [dg m] from rfl, rd_snoc, dg_toNat, rd_nil]; omega
    · rw [decDigits_big h, rd_snoc, ih _ (by omega), dg_toNat]; omega
theorem dec_inj {m n : Nat} (h : Lib.decDigits m = Lib.decDigits n) : m = n := by rw [← rd_dec m, h, rd_dec]
theorem dec_head {m : Nat} (h : 0 < m) : (Lib.decDigits m).head? ≠ some 48 := by
  induction m using Nat.strongRecOn with
  | _ m ih =>
    by_cases h1 : m < 10
    · rw [decDigits_small h1]
      intro hh
      have h2 : dg m = 48 := by simpa using hh
      have := dg_toNat m
      rw [h2] at this
      have h48 : (48 : UInt8).toNat = 48 := rfl
      omega
    · rw [decDigits_big h1]
      have := ih (m / 10) (by omega) (by omega)
      have hne := dec_ne (m / 10)
      cases hd : Lib.decDigits (m / 10) with
      | nil => exact absurd hd hne
      | cons a l => rw [hd] at this; simpa using this
theorem dec_rd_of {l : List UInt8} (hd : allDig l = true) (hn : l ≠ []) (h : l.length = 1 ∨ l.head? ≠ some 48) : Lib.decDigits (rd l) = l := by
  induction l using snoc_ind with
  | nil => exact absurd rfl hn
  | snoc l c ih =>
    obtain ⟨h1, h2⟩ := allDig_snoc.1 hd
    obtain ⟨h3, h4⟩ := digC_iff.1 h2
    cases hl : l with
    | nil =>
      rw [rd_snoc, rd_nil, decDigits_small (by omega)]
      show [dg _] = [c]
      rw [dg_of h2 (by omega)]
    | cons a t =>
      rw [← hl]
      have hne : l ≠ [] := by rw [hl]; simp
      have hh : l.head? ≠ some 48 := by
        rcases h with h | h
        · rw [hl] at h; simp at h
        · rw [hl] at h ⊢; simpa using h
      have hi := ih h1 hne (.inr hh)
      have hp : 0 < rd l := by
        rcases Nat.eq_zero_or_pos (rd l) with h0 | h0
        · exfalso
          rw [h0, decDigits_small (by decide)] at hi
          rw [← hi] at hh
          exact hh rfl
        · exact h0
      rw [rd_snoc, decDigits_big (by omega), show (10 * rd l + (c.toNat - 48)) / 10 = rd l by omega, hi, dg_of h2 (by omega)]
theorem dec_rd_only {l : List UInt8} (h : Lib.decDigits (rd l) = l) : l.length = 1 ∨ l.head? ≠ some 48 := by
  rcases Nat.eq_zero_or_pos (rd l) with h0 | h0
  · left
    rw [h0, decDigits_small (by decide)] at h
    rw [← h]; rfl
  · right
    have := dec_head h0
    rwa [h] at this
end Go.Proofs.YtehhpkeabckdaaaGreatDoor
