/- Sums and differences, digit by digit: plain numbers. -/
import Derived.Test.YtjklefkkdaelnaaDoorNum
namespace Go.Proofs.YtjklefkkdaelnaaDoor
set_option linter.unusedVariables false
set_option linter.unusedSimpArgs false

/-- as many digits as the number has -/
theorem digs_of_len {xs : List Int} (h : Rng xs) (hl : xs = [] ∨ pw (xs.length - 1) ≤ val xs) : digs (val xs) = xs := by
  apply digs_val h
  rcases hl with rfl | hl
  · simp
  · intro h0
    have hne : xs ≠ [] := by rintro rfl; simp at h0
    have e1 : xs.getLastD 1 = xs.getLast hne := by simp [List.getLastD_eq_getLast?, List.getLast?_eq_some_getLast hne]
    rw [e1] at h0
    have e2 := List.dropLast_concat_getLast hne
    have h1 : val xs = val xs.dropLast := by
      conv => lhs; rw [← e2, val_append, h0]
      simp [val]
    have h2 : Rng xs.dropLast := by rw [List.dropLast_eq_take]; exact h.take _
    have h3 := val_lt h2
    rw [List.length_dropLast] at h3
    omega

theorem pw_le_digs {n : Nat} (h : 0 < n) : pw ((digs n).length - 1) ≤ n := by
  rcases Nat.lt_or_ge n (pw ((digs n).length - 1)) with h1 | h1
  · have := digs_len_le h1
    have h2 : digs n ≠ [] := fun h' => by have := digs_nil_iff.1 h'; omega
    have h3 : 0 < (digs n).length := List.length_pos_iff.2 h2
    omega
  · exact h1

theorem val_take_succ {xs : List Int} {k : Nat} (h : k < xs.length) : val (xs.take (k + 1)) = val (xs.take k) + pw k * xs[k].toNat := by
  rw [List.take_succ_eq_append_getElem h, val_append]
  simp [val, Nat.min_eq_left (Nat.le_of_lt h)]

theorem digit_split (p : Nat) {n : Int} (hn : 0 ≤ n) : p * (n % 1000000000).toNat + 1000000000 * p * (n / 1000000000).toNat = p * n.toNat := by
  have e : n.toNat = (n % 1000000000).toNat + 1000000000 * (n / 1000000000).toNat := by omega
  rw [e, Nat.mul_add, Nat.mul_comm 1000000000 p, Nat.mul_assoc]

theorem add_step {ds : List Int} {i : Nat} {c n e : Int} {S : Nat} (hl : ds.length = i) (hc : 0 ≤ c) (he : 0 ≤ e) (hn : n = c + e) (h : val ds + pw i * c.toNat = S) :
    val (ds ++ [n % 1000000000]) + pw (i + 1) * (n / 1000000000).toNat = S + pw i * e.toNat := by
  rw [val_append, hl, pw_succ]
  have h1 := digit_split (pw i) (n := n) (by omega)
  have h2 : pw i * n.toNat = pw i * c.toNat + pw i * e.toNat := by rw [← Nat.mul_add]; congr 1; omega
  simp only [val, Nat.mul_zero, Nat.add_zero]
  omega

theorem rng_snoc {ds : List Int} (h : Rng ds) {d : Int} (h0 : 0 ≤ d) (h1 : d ≤ 999999999) : Rng (ds ++ [d]) := h.app (Rng.cons ⟨h0, h1⟩ Rng.nil)

/-- a difference, digit by digit: b what was borrowed -/
theorem sub_step {ds : List Int} {i : Nat} {b n x y : Int} {X Y : Nat} (hl : ds.length = i) (hb : 0 ≤ b) (hx : 0 ≤ x) (hy : 0 ≤ y)
    (h : val ds + Y = X + pw i * b.toNat) {b' : Int} (hb' : 0 ≤ b') (hn : n = x - b - y + 1000000000 * b') (hn0 : 0 ≤ n) :
    val (ds ++ [n]) + (Y + pw i * y.toNat) = (X + pw i * x.toNat) + pw (i + 1) * b'.toNat := by
  rw [val_append, hl, pw_succ]
  simp only [val, Nat.mul_zero, Nat.add_zero]
  have e : n.toNat + b.toNat + y.toNat = x.toNat + 1000000000 * b'.toNat := by omega
  have h2 : pw i * n.toNat + pw i * b.toNat + pw i * y.toNat = pw i * x.toNat + 1000000000 * pw i * b'.toNat := by
    rw [← Nat.mul_add, ← Nat.mul_add, e, Nat.mul_add, Nat.mul_comm 1000000000 (pw i), Nat.mul_assoc]
  omega
end Go.Proofs.YtjklefkkdaelnaaDoor
