/- Comparing naturals by their digits. -/
import Derived.Test.YtgbnocfkkhngmaaDoorNatOk
import Derived.Test.YtgbnocfkkhngmaaDoorNum
namespace Go.Proofs.YtgbnocfkkhngmaaDoor
set_option linter.unusedVariables false
set_option linter.unusedSimpArgs false
open Go.RowKit

def cmpI (x y : Int) : Int := if x < y then -1 else if y < x then 1 else 0
def cmpTop (xs ys : List Int) : Nat → Int
  | 0 => 0
  | k + 1 => if xs.getD k 0 < ys.getD k 0 then -1 else if ys.getD k 0 < xs.getD k 0 then 1 else cmpTop xs ys k
def cmpL (xs ys : List Int) : Int := if xs.length < ys.length then -1 else if ys.length < xs.length then 1 else cmpTop xs ys xs.length

theorem getD_at {xs : List Int} {k : Nat} (h : k < xs.length) : xs.getD k 0 = xs[k] := by simp [h]
theorem cmpTop_lt {xs ys : List Int} {k : Nat} (h : k < xs.length) (h2 : k < ys.length) (hl : xs[k] < ys[k]) : cmpTop xs ys (k + 1) = -1 := by
  rw [cmpTop, getD_at h, getD_at h2, if_pos hl]
theorem cmpTop_gt {xs ys : List Int} {k : Nat} (h : k < xs.length) (h2 : k < ys.length) (hl : ys[k] < xs[k]) : cmpTop xs ys (k + 1) = 1 := by
  rw [cmpTop, getD_at h, getD_at h2, if_neg (by omega), if_pos hl]
theorem cmpTop_eq {xs ys : List Int} {k : Nat} (h : k < xs.length) (h2 : k < ys.length) (h1 : ¬ xs[k] < ys[k]) (h3 : ¬ ys[k] < xs[k]) : cmpTop xs ys (k + 1) = cmpTop xs ys k := by
  rw [cmpTop, getD_at h, getD_at h2, if_neg h1, if_neg h3]

/-- a call that draws nothing, in a second region that draws its order -/
theorem again_quiet {P : Program} {f : FuncId} {args : Array Value} {w : World} {a n : Nat} {v : Value} (h : Calls P f args (w.drewN (a + n)) fun e w' => e = .returned v ∧ w' = w.drewN (a + n)) :
    Calls P f args (w.drewN (a + n)) fun e w2 => e = .returned v ∧ ∃ m, w2 = w.drewN (a + m) := h.mono fun _ _ hh => ⟨hh.1, n, hh.2⟩

/-! the digits' comparison is the numbers' -/
def cmpN (m n : Nat) : Int := if m < n then -1 else if n < m then 1 else 0
theorem snoc_of {α : Type} {xs : List α} {n : Nat} (h : xs.length = n + 1) : ∃ ys d, xs = ys ++ [d] ∧ ys.length = n :=
  ⟨xs.dropLast, xs.getLast (by intro h'; simp [h'] at h), (List.dropLast_concat_getLast _).symm, by simp [h]⟩

theorem cmpTop_digs : ∀ (n : Nat) (xs ys : List Int), xs.length = n → xs.length = ys.length → Rng xs → Rng ys → cmpTop xs ys xs.length = cmpN (val xs) (val ys) := by
  intro n
  induction n with
  | zero => intro xs ys h0 h _ _
            have h1 : xs = [] := List.eq_nil_of_length_eq_zero h0
            have h2 : ys = [] := List.eq_nil_of_length_eq_zero (by omega)
            subst h1 h2; rfl
  | succ n ih =>
    intro xs0 ys0 h0 h hx hy
    obtain ⟨xs, d, rfl, hxn⟩ := snoc_of h0
    obtain ⟨zs, e, rfl, hzn⟩ := snoc_of (n := n) (by omega : ys0.length = n + 1)
    · have hlen : xs.length = zs.length := by simpa using h
      have hx1 : Rng xs := fun x hm => hx x (by simp [hm])
      have hz1 : Rng zs := fun x hm => hy x (by simp [hm])
      have hd := hx d (by simp)
      have he := hy e (by simp)
      have b1 := val_lt hx1
      have b2 := val_lt hz1
      have same : ∀ k, k ≤ xs.length → cmpTop (xs ++ [d]) (zs ++ [e]) k = cmpTop xs zs k := by
        intro k
        induction k with
        | zero => intro _; rfl
        | succ k ihk =>
          intro hk
          rw [cmpTop, cmpTop, ihk (by omega)]
          have e1 : (xs ++ [d]).getD k 0 = xs.getD k 0 := by simp [List.getElem?_append_left (show k < xs.length by omega)]
          have e2 : (zs ++ [e]).getD k 0 = zs.getD k 0 := by simp [List.getElem?_append_left (show k < zs.length by omega)]
          rw [e1, e2]
      have e1 : (xs ++ [d]).getD xs.length 0 = d := by simp
      have e2 : (zs ++ [e]).getD xs.length 0 = e := by rw [hlen]; simp
      have v1 : val (xs ++ [d]) = val xs + pw xs.length * d.toNat := by rw [val_append]; simp [val]
      have v2 : val (zs ++ [e]) = val zs + pw xs.length * e.toNat := by rw [val_append, hlen]; simp [val]
      rw [List.length_append, List.length_singleton, cmpTop, e1, e2, v1, v2]
      have h3 := ih xs zs hxn hlen hx1 hz1
      rw [same _ (Nat.le_refl _), h3]
      unfold cmpN
      rw [hlen] at b1
      by_cases c1 : d < e
      · have : pw xs.length * (d.toNat + 1) ≤ pw xs.length * e.toNat := Nat.mul_le_mul_left _ (by omega)
        rw [Nat.mul_add] at this
        rw [if_pos c1, if_pos (by rw [hlen] at this ⊢; omega)]
      · rw [if_neg c1]
        by_cases c2 : e < d
        · have : pw xs.length * (e.toNat + 1) ≤ pw xs.length * d.toNat := Nat.mul_le_mul_left _ (by omega)
          rw [Nat.mul_add] at this
          rw [if_pos c2, if_neg (by rw [hlen] at this ⊢; omega), if_pos (by rw [hlen] at this ⊢; omega)]
        · rw [if_neg c2]
          have : d = e := by omega
          subst this
          by_cases c3 : val xs < val zs
          · rw [if_pos c3, if_pos (by omega)]
          · by_cases c4 : val zs < val xs
            · rw [if_neg c3, if_pos c4, if_neg (by omega), if_pos (by omega)]
            · rw [if_neg c3, if_neg c4, if_neg (by omega), if_neg (by omega)]

theorem digs_len_lt {m n : Nat} (h : (digs m).length < (digs n).length) : m < n := by
  rcases Nat.lt_or_ge m n with h1 | h1
  · exact h1
  · have : n < pw (digs m).length := Nat.lt_of_le_of_lt h1 (digs_lt_pw (Nat.le_refl _))
    have := digs_len_le this
    omega

theorem cmpL_digs (m n : Nat) : cmpL (digs m) (digs n) = cmpN m n := by
  unfold cmpL
  by_cases h1 : (digs m).length < (digs n).length
  · rw [if_pos h1, cmpN, if_pos (digs_len_lt h1)]
  · by_cases h2 : (digs n).length < (digs m).length
    · have := digs_len_lt h2
      rw [if_neg h1, if_pos h2, cmpN, if_neg (by omega), if_pos this]
    · rw [if_neg h1, if_neg h2, cmpTop_digs _ _ _ rfl (by omega) (digs_rng m) (digs_rng n), val_digs, val_digs]
end Go.Proofs.YtgbnocfkkhngmaaDoor
