/- Naturals by their digits to the base 1000000000, the least first. -/
import Derived.Test.YtjklefkkdaelnaaDoorBase
namespace Go.Proofs.YtjklefkkdaelnaaDoor
set_option linter.unusedVariables false
set_option linter.unusedSimpArgs false

def digs (n : Nat) : List Int := if h : n = 0 then [] else ((n % 1000000000 : Nat) : Int) :: digs (n / 1000000000)
termination_by n
decreasing_by exact Nat.div_lt_self (Nat.pos_of_ne_zero h) (by decide)

theorem digs_zero : digs 0 = [] := by rw [digs]; simp
theorem digs_pos {n : Nat} (h : 0 < n) : digs n = ((n % 1000000000 : Nat) : Int) :: digs (n / 1000000000) := by
  conv => lhs; rw [digs]
  rw [dif_neg (by omega)]

def val : List Int → Nat
  | [] => 0
  | d :: r => d.toNat + 1000000000 * val r

theorem val_digs (n : Nat) : val (digs n) = n := by
  induction n using Nat.strongRecOn with
  | _ n ih =>
    by_cases h : n = 0
    · subst h; rw [digs_zero]; rfl
    · rw [digs_pos (by omega), val, ih _ (by omega)]; omega

/-- each digit is one -/
def Rng (xs : List Int) : Prop := ∀ x ∈ xs, 0 ≤ x ∧ x ≤ 999999999
theorem Rng.nil : Rng [] := by simp [Rng]
theorem Rng.cons {d : Int} {xs : List Int} (h : 0 ≤ d ∧ d ≤ 999999999) (hx : Rng xs) : Rng (d :: xs) := by
  intro x hm; cases hm with
  | head => exact h
  | tail _ h2 => exact hx x h2
theorem Rng.app {xs ys : List Int} (hx : Rng xs) (hy : Rng ys) : Rng (xs ++ ys) := fun x hm => (List.mem_append.1 hm).elim (hx x) (hy x)
theorem Rng.in64 {xs : List Int} (h : Rng xs) : ∀ x ∈ xs, In64 x := fun x hx => by have := h x hx; unfold In64; omega
theorem Rng.at {xs : List Int} (h : Rng xs) {k : Nat} (hk : k < xs.length) : 0 ≤ xs[k] ∧ xs[k] ≤ 999999999 := h _ (List.getElem_mem hk)
theorem Rng.tail {d : Int} {xs : List Int} (h : Rng (d :: xs)) : Rng xs := fun x hx => h x (List.mem_cons_of_mem _ hx)
theorem Rng.take {xs : List Int} (h : Rng xs) (k : Nat) : Rng (xs.take k) := fun x hx => h x (List.mem_of_mem_take hx)
theorem Rng.drop {xs : List Int} (h : Rng xs) (k : Nat) : Rng (xs.drop k) := fun x hx => h x (List.mem_of_mem_drop hx)

theorem digs_rng (n : Nat) : Rng (digs n) := by
  induction n using Nat.strongRecOn with
  | _ n ih =>
    by_cases h : n = 0
    · subst h; rw [digs_zero]; exact Rng.nil
    · rw [digs_pos (by omega)]; exact Rng.cons (by omega) (ih _ (by omega))

theorem digs_nil_iff {n : Nat} : digs n = [] ↔ n = 0 := by
  constructor
  · intro h; have := val_digs n; rw [h] at this; exact this.symm
  · rintro rfl; exact digs_zero

theorem digs_last (n : Nat) : (digs n).getLastD 1 ≠ 0 := by
  induction n using Nat.strongRecOn with
  | _ n ih =>
    by_cases h : n = 0
    · subst h; rw [digs_zero]; simp
    · rw [digs_pos (by omega)]
      by_cases h2 : n / 1000000000 = 0
      · rw [h2, digs_zero]; simp; omega
      · have := ih (n / 1000000000) (by omega)
        have hne : digs (n / 1000000000) ≠ [] := fun hh => h2 (digs_nil_iff.1 hh)
        cases hd : digs (n / 1000000000) with
        | nil => exact absurd hd hne
        | cons d r => rw [hd] at this; simpa [List.getLastD] using this

theorem val_rng_zero {xs : List Int} (h : Rng xs) (hv : val xs = 0) : ∀ x ∈ xs, x = 0 := by
  induction xs with
  | nil => simp
  | cons d r ih =>
    simp only [val] at hv
    have hd := h d (List.mem_cons_self ..)
    intro x hx
    cases hx with
    | head => omega
    | tail _ hx => exact ih h.tail (by omega) x hx

/-- digits without a zero at the end are the number's own -/
theorem digs_val {xs : List Int} (h : Rng xs) (hl : xs.getLastD 1 ≠ 0) : digs (val xs) = xs := by
  induction xs with
  | nil => rw [val, digs_zero]
  | cons d r ih =>
    have hd := h d (List.mem_cons_self ..)
    have hp : 0 < val (d :: r) := by
      rcases Nat.eq_zero_or_pos (val (d :: r)) with h0 | h0
      · have hz := val_rng_zero h h0
        exact absurd (hz _ (by
          have : (d :: r).getLastD 1 = (d :: r).getLast (by simp) := by simp [List.getLastD_eq_getLast?, List.getLast?_eq_some_getLast]
          rw [this]; exact List.getLast_mem _)) hl
      · exact h0
    rw [digs_pos hp]
    have e1 : val (d :: r) % 1000000000 = d.toNat := by simp only [val]; omega
    have e2 : val (d :: r) / 1000000000 = val r := by simp only [val]; omega
    rw [e1, e2]
    cases r with
    | nil => rw [val, digs_zero]; congr 1; omega
    | cons d' r' => rw [ih h.tail (by simpa [List.getLastD] using hl)]; congr 1; omega

def pw (k : Nat) : Nat := 1000000000 ^ k
theorem pw_zero : pw 0 = 1 := rfl
theorem pw_succ (k : Nat) : pw (k + 1) = 1000000000 * pw k := by unfold pw; rw [Nat.pow_succ, Nat.mul_comm]
theorem pw_pos (k : Nat) : 0 < pw k := Nat.pow_pos (by decide)
theorem pw_add (a b : Nat) : pw (a + b) = pw a * pw b := by unfold pw; exact Nat.pow_add ..
theorem pw_mono {a b : Nat} (h : a ≤ b) : pw a ≤ pw b := Nat.pow_le_pow_right (by decide) h

theorem val_append (xs ys : List Int) : val (xs ++ ys) = val xs + pw xs.length * val ys := by
  induction xs with
  | nil => simp [val, pw_zero]
  | cons d r ih => simp only [List.cons_append, val, ih, List.length_cons, pw_succ]; rw [Nat.mul_add, Nat.mul_assoc]; omega

theorem val_lt {xs : List Int} (h : Rng xs) : val xs < pw xs.length := by
  induction xs with
  | nil => simp [val, pw_zero]
  | cons d r ih =>
    have hd := h d (List.mem_cons_self ..)
    have := ih h.tail
    simp only [val, List.length_cons, pw_succ]; omega

theorem digs_len_le {n k : Nat} (h : n < pw k) : (digs n).length ≤ k := by
  induction k generalizing n with
  | zero => rw [pw_zero] at h; obtain rfl : n = 0 := by omega
            rw [digs_zero]; simp
  | succ k ih =>
    by_cases h0 : n = 0
    · subst h0; rw [digs_zero]; simp
    · rw [digs_pos (by omega)]
      rw [pw_succ] at h
      have := ih (n := n / 1000000000) (by omega)
      simp; omega

theorem digs_lt_pw {n k : Nat} (h : (digs n).length ≤ k) : n < pw k := by
  have := val_lt (digs_rng n)
  rw [val_digs] at this
  exact Nat.lt_of_lt_of_le this (pw_mono h)

theorem digs_len_iff {n k : Nat} : (digs n).length ≤ k ↔ n < pw k := ⟨digs_lt_pw, digs_len_le⟩
theorem digs_inj {m n : Nat} (h : digs m = digs n) : m = n := by rw [← val_digs m, h, val_digs]
end Go.Proofs.YtjklefkkdaelnaaDoor
