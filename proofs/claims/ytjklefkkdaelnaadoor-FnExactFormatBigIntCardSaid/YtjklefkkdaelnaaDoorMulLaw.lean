/- Products, digit by digit: plain numbers. -/
import Derived.Test.YtjklefkkdaelnaaDoorAddLaw
namespace Go.Proofs.YtjklefkkdaelnaaDoor
set_option linter.unusedVariables false
set_option linter.unusedSimpArgs false

theorem val_set {xs : List Int} {k : Nat} (h : k < xs.length) (d : Int) : val (xs.set k d) + pw k * xs[k].toNat = val xs + pw k * d.toNat := by
  induction xs generalizing k with
  | nil => simp at h
  | cons x r ih =>
    cases k with
    | zero => simp [val, pw_zero]; omega
    | succ k =>
      have := ih (k := k) (by simpa using h)
      simp only [List.set_cons_succ, val, List.getElem_cons_succ, pw_succ]
      rw [Nat.mul_assoc, Nat.mul_assoc]
      omega
theorem rng_set {xs : List Int} (h : Rng xs) (k : Nat) {d : Int} (h0 : 0 ≤ d) (h1 : d ≤ 999999999) : Rng (xs.set k d) := by
  intro x hx
  rcases List.mem_or_eq_of_mem_set hx with hx | rfl
  · exact h x hx
  · exact ⟨h0, h1⟩
theorem val_replicate (n : Nat) : val (List.replicate n 0) = 0 := val_zeros' _ fun x hx => (List.mem_replicate.1 hx).2
where val_zeros' : ∀ (xs : List Int), (∀ x ∈ xs, x = 0) → val xs = 0
  | [], _ => rfl
  | d :: r, h => by
    have h1 := h d (List.mem_cons_self ..)
    have h2 := val_zeros' r fun x hx => h x (List.mem_cons_of_mem _ hx)
    simp [val, h1, h2]

/-- one step of the inner loop: place i + j of os becomes t % base, the carry t / base -/
theorem mul_inner {os : List Int} {i j : Nat} {x y c t : Int} {S : Nat} (hk : i + j < os.length) (hx : 0 ≤ x) (hy : 0 ≤ y) (hc : 0 ≤ c) (ho : 0 ≤ os[i + j])
    (ht : t = os[i + j] + x * y + c) (h : val os + pw (i + j) * c.toNat = S) :
    val (os.set (i + j) (t % 1000000000)) + pw (i + j + 1) * (t / 1000000000).toNat = S + pw i * x.toNat * (pw j * y.toNat) := by
  have hxy : 0 ≤ x * y := Int.mul_nonneg hx hy
  have h1 := val_set hk (t % 1000000000)
  have h2 := digit_split (pw (i + j)) (n := t) (by omega)
  rw [pw_succ]
  have e : t.toNat = os[i + j].toNat + x.toNat * y.toNat + c.toNat := by
    have : (x * y).toNat = x.toNat * y.toNat := by rw [Int.toNat_mul hx hy]
    rw [ht, ← this]; omega
  rw [e, Nat.mul_add, Nat.mul_add] at h2
  have e3 : pw i * x.toNat * (pw j * y.toNat) = pw (i + j) * (x.toNat * y.toNat) := by rw [pw_add]; ac_rfl
  rw [e3]
  omega

theorem take_mul {ys : List Int} {j : Nat} (h : j < ys.length) (p : Nat) : p * val (ys.take (j + 1)) = p * val (ys.take j) + p * (pw j * ys[j].toNat) := by
  rw [val_take_succ h, Nat.mul_add]
end Go.Proofs.YtjklefkkdaelnaaDoor
