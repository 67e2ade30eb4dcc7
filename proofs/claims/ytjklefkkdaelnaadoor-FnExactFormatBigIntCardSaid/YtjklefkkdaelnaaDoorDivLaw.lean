/- Quotients of naturals, digit by digit: plain numbers. -/
import Derived.Test.YtjklefkkdaelnaaDoorMulLaw
namespace Go.Proofs.YtjklefkkdaelnaaDoor
set_option linter.unusedVariables false
set_option linter.unusedSimpArgs false

theorem val_drop {xs : List Int} {k : Nat} (h : k < xs.length) : val (xs.drop k) = xs[k].toNat + 1000000000 * val (xs.drop (k + 1)) := by
  rw [List.drop_eq_getElem_cons h, val]
theorem val_split (xs : List Int) {k : Nat} (hk : k ≤ xs.length) : val xs = val (xs.take k) + pw k * val (xs.drop k) := by
  conv => lhs; rw [← List.take_append_drop k xs, val_append]
  rw [List.length_take, Nat.min_eq_left hk]
theorem val_take_lt {xs : List Int} (h : Rng xs) {k : Nat} (hk : k ≤ xs.length) : val (xs.take k) < pw k := by
  have := val_lt (h.take k)
  rwa [List.length_take, Nat.min_eq_left hk] at this

/-- one step of a division by a digit -/
theorem small_step (V d x : Nat) (hd : 0 < d) :
    (x + 1000000000 * V) / d = (V % d * 1000000000 + x) / d + 1000000000 * (V / d) ∧ (x + 1000000000 * V) % d = (V % d * 1000000000 + x) % d := by
  have e : x + 1000000000 * V = (V % d * 1000000000 + x) + d * (1000000000 * (V / d)) := by
    have h1 := Nat.div_add_mod V d
    have h2 : d * (1000000000 * (V / d)) = 1000000000 * (d * (V / d)) := by ac_rfl
    rw [h2]
    generalize d * (V / d) = p at *
    generalize V % d = r at *
    omega
  rw [e]
  exact ⟨by rw [Nat.add_mul_div_left _ _ hd], by rw [Nat.add_mul_mod_self_left]⟩
theorem small_digit {d r x : Nat} (hr : r < d) (hx : x ≤ 999999999) : (r * 1000000000 + x) / d ≤ 999999999 := by
  have h : r * 1000000000 + x < d * 1000000000 := by omega
  have := Nat.div_lt_of_lt_mul h
  omega

section
variable {V W P v1 v2 vl u0 t wl q : Nat} (hV : V = vl + P * (v2 + 1000000000 * v1)) (hW : W = wl + P * (u0 + 1000000000 * t))
include hV hW
theorem kn_never (hwl : wl < P) : W / V * (v2 + 1000000000 * v1) ≤ u0 + 1000000000 * t := by
  have h1 : W / V * V ≤ W := Nat.div_mul_le_self W V
  have h2 : W < P * (u0 + 1000000000 * t + 1) := by rw [Nat.mul_add P _ 1]; omega
  have h3 : P * (W / V * (v2 + 1000000000 * v1)) ≤ W / V * V := by
    generalize W / V = k
    rw [hV, Nat.mul_add k vl, show k * (P * (v2 + 1000000000 * v1)) = P * (k * (v2 + 1000000000 * v1)) by ac_rfl]
    omega
  have := Nat.lt_of_mul_lt_mul_left (Nat.lt_of_le_of_lt (Nat.le_trans h3 h1) h2)
  omega
theorem kn_first (hwl : wl < P) (hu0 : u0 ≤ 999999999) : W / V * v1 ≤ t := by
  have h := kn_never hV hW hwl
  generalize W / V = k at *
  rw [Nat.mul_add, show k * (1000000000 * v1) = 1000000000 * (k * v1) by ac_rfl] at h
  generalize k * v1 = a at *
  generalize k * v2 = b at *
  omega
theorem kn_last (hvl : vl < P) (hq : q ≤ 999999999) (h1 : 1 ≤ v1) (h : q * (v2 + 1000000000 * v1) ≤ u0 + 1000000000 * t) : q * V < W + V := by
  have a1 : q * vl ≤ 999999999 * P := Nat.mul_le_mul hq (Nat.le_of_lt hvl)
  have a2 : P * (q * (v2 + 1000000000 * v1)) ≤ P * (u0 + 1000000000 * t) := Nat.mul_le_mul_left P h
  have a3 : q * V = q * vl + P * (q * (v2 + 1000000000 * v1)) := by
    rw [hV, Nat.mul_add q vl, show q * (P * (v2 + 1000000000 * v1)) = P * (q * (v2 + 1000000000 * v1)) by ac_rfl]
  have a4 : P * 1000000000 ≤ P * (v2 + 1000000000 * v1) := Nat.mul_le_mul_left P (by omega)
  omega
theorem kn_more (hwl : wl < P) (h : u0 + 1000000000 * t < q * (v2 + 1000000000 * v1)) : W / V < q := by
  rcases Nat.lt_or_ge (W / V) q with h1 | h1
  · exact h1
  · have := Nat.mul_le_mul_right (v2 + 1000000000 * v1) h1
    have := kn_never hV hW hwl
    omega
end
/-- the loop's two ways out -/
theorem kn_out {q r v1 v2 u0 t : Nat} (hq : q ≤ 999999999) (hv2 : v2 ≤ 999999999) (ht : q * v1 + r = t) (h : 1000000000 ≤ r ∨ q * v2 ≤ r * 1000000000 + u0) : q * (v2 + 1000000000 * v1) ≤ u0 + 1000000000 * t := by
  have h1 : q * v2 ≤ 999999999 * 999999999 := Nat.mul_le_mul hq hv2
  rw [Nat.mul_add, show q * (1000000000 * v1) = 1000000000 * (q * v1) by ac_rfl]
  generalize q * v1 = a at *
  generalize q * v2 = b at *
  omega
theorem kn_on {q r v1 v2 u0 t : Nat} (ht : q * v1 + r = t) (h : r * 1000000000 + u0 < q * v2) : u0 + 1000000000 * t < q * (v2 + 1000000000 * v1) := by
  rw [Nat.mul_add, show q * (1000000000 * v1) = 1000000000 * (q * v1) by ac_rfl]
  generalize q * v1 = a at *
  generalize q * v2 = b at *
  omega

/-- the row behind a step of the long division -/
theorem kn_rest {U U' V W p lo Q S : Nat} (hU : U = lo + p * W) (hlo : lo < p) (hV : 0 < V) (h : U' + p * (W / V * V) = U) (hS : U + V * Q = S) : U' + V * (Q + p * (W / V)) = S ∧ U' < V * p := by
  have h1 : W / V * V + W % V = W := by rw [Nat.mul_comm]; exact Nat.div_add_mod W V
  have h2 : W % V < V := Nat.mod_lt _ hV
  constructor
  · rw [Nat.mul_add, show V * (p * (W / V)) = p * (W / V * V) by ac_rfl]; omega
  · have h3 : p * W = p * (W / V * V) + p * (W % V) := by rw [← Nat.mul_add, h1]
    have h4 : p * (W % V + 1) ≤ p * V := Nat.mul_le_mul_left p h2
    rw [Nat.mul_add] at h4
    rw [Nat.mul_comm V p]
    omega
theorem kn_fit {U U1 V W p lo q : Nat} (hU : U = lo + p * W) (hlo : lo < p) (hV : 0 < V) (hq : W / V ≤ q) (h : U1 + p * (q * V) = U) : q = W / V := by
  have h1 : p * (q * V) < p * (W + 1) := by rw [Nat.mul_add]; omega
  have h2 := Nat.lt_of_mul_lt_mul_left h1
  have h3 : q ≤ W / V := (Nat.le_div_iff_mul_le hV).2 (by omega)
  omega
theorem kn_over {U U1 V W p T lo q : Nat} (hU : U = lo + p * W) (hV : 0 < V) (h1 : q * V < W + V) (hlt : U1 < T) (h : U1 + p * (q * V) = U + T) (hq : W / V ≤ q) : q = W / V + 1 := by
  have h2 : ¬ q * V ≤ W := by
    intro h3
    have := Nat.mul_le_mul_left p h3
    omega
  have h3 : ¬ q ≤ W / V := fun h4 => h2 ((Nat.le_div_iff_mul_le hV).1 h4)
  have h4 : (q - 1) * V ≤ W := by
    rw [Nat.sub_mul, Nat.one_mul]; omega
  have h5 := (Nat.le_div_iff_mul_le hV).2 h4
  omega
theorem kn_back {U U1 U2 V W p T q c lo : Nat} (hU : U = lo + p * W) (hV : 0 < V) (hq : q = W / V + 1) (h : U1 + p * (q * V) = U + T) (h2 : U2 + T * c = U1 + p * V) (hc : c ≤ 1) (hlt : U2 < T) (h1 : U1 < T) : U2 + p * (W / V * V) = U := by
  have e : p * (q * V) = p * (W / V * V) + p * V := by rw [hq, Nat.add_mul, Nat.mul_add, Nat.one_mul]
  have h3 : p * (W / V * V) ≤ p * W := Nat.mul_le_mul_left p (Nat.div_mul_le_self W V)
  rcases Nat.le_one_iff_eq_zero_or_eq_one.1 hc with rfl | rfl
  · simp at h2; omega
  · simp at h2; omega
/-- the end of the long division: both were scaled -/
theorem kn_end {A b s U Q : Nat} (hs : 0 < s) (hb : 0 < b) (h : U + b * s * Q = A * s) (hU : U < b * s) : U / s = A % b ∧ Q = A / b := by
  have e : A * s = s * A := Nat.mul_comm ..
  have h1 : s * (b * Q) ≤ s * A := by rw [← e, ← h, show b * s * Q = s * (b * Q) by ac_rfl]; omega
  have h2 : b * Q ≤ A := Nat.le_of_mul_le_mul_left h1 hs
  have h3 : U = s * (A - b * Q) := by rw [Nat.mul_sub, ← e, ← h, show b * s * Q = s * (b * Q) by ac_rfl]; omega
  have h4 : A - b * Q < b := by
    rw [h3, Nat.mul_comm b s] at hU
    exact Nat.lt_of_mul_lt_mul_left hU
  have h5 : A = (A - b * Q) + b * Q := by omega
  constructor
  · rw [h3, Nat.mul_div_cancel_left _ hs]
    conv => rhs; rw [h5, Nat.add_mul_mod_self_left]
    exact (Nat.mod_eq_of_lt h4).symm
  · conv => rhs; rw [h5, Nat.add_mul_div_left _ _ hb]
    rw [Nat.div_eq_of_lt h4]; omega
theorem val_one {ys : List Int} (h : ys.length = 1) : val ys = (ys[0]'(by omega)).toNat := by
  match ys, h with
  | [y], _ => simp [val]
theorem div_bounds {xs ys : List Int} (hx : Rng xs) {k : Nat} (hn : xs.length ≤ k) : (digs (val xs / val ys)).length ≤ k ∧ (digs (val xs % val ys)).length ≤ k := by
  have a1 := val_lt hx
  have a2 := pw_mono hn
  exact ⟨digs_len_le (Nat.lt_of_le_of_lt (Nat.div_le_self _ _) (by omega)), digs_len_le (Nat.lt_of_le_of_lt (Nat.mod_le _ _) (by omega))⟩
end Go.Proofs.YtjklefkkdaelnaaDoor
