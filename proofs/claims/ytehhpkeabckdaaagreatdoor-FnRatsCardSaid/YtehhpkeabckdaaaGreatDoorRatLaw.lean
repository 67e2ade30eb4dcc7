/- Fractions: plain. -/
import Derived.Test.YtehhpkeabckdaaaGreatDoorK4
import Derived.Test.YtehhpkeabckdaaaGreatDoorK3
namespace Go.Proofs.YtehhpkeabckdaaaGreatDoor
set_option linter.unusedVariables false
set_option linter.unusedSimpArgs false

structure RA where
  neg : Bool
  num : List Int
  den : List Int
def zeroRA : RA := ⟨false, [], []⟩
/-- the fraction N/D in lowest terms; the zero value where D is 0 or a part has more than 24 digits -/
def mkRA (n : Bool) (N D : Nat) : RA :=
  if D = 0 then zeroRA else if (digs (N / Nat.gcd N D)).length ≤ 24 ∧ (digs (D / Nat.gcd N D)).length ≤ 24 then ⟨(mkBI n (digs (N / Nat.gcd N D))).neg, digs (N / Nat.gcd N D), digs (D / Nat.gcd N D)⟩ else zeroRA
def mkRAz (z : Int) (D : Nat) : RA := mkRA (decide (z < 0)) z.natAbs D
def ratOkB (n : Bool) (xs ds : List Int) : Bool := bigOkB n xs && natOkB ds && decide (0 < ds.length) && decide (xs.length ≤ 24) && decide (ds.length ≤ 24) && decide (Nat.gcd (val xs) (val ds) = 1)

theorem mkRA_zero (n : Bool) (N : Nat) : mkRA n N 0 = zeroRA := if_pos rfl
theorem mkRA_fit {n : Bool} {N D : Nat} (hD : D ≠ 0) (h1 : (digs (N / Nat.gcd N D)).length ≤ 24) (h2 : (digs (D / Nat.gcd N D)).length ≤ 24) : mkRA n N D = ⟨(mkBI n (digs (N / Nat.gcd N D))).neg, digs (N / Nat.gcd N D), digs (D / Nat.gcd N D)⟩ := by
  unfold mkRA; rw [if_neg hD, if_pos ⟨h1, h2⟩]
theorem mkRA_num {n : Bool} {N D : Nat} (h1 : ¬ (digs (N / Nat.gcd N D)).length ≤ 24) : mkRA n N D = zeroRA := by
  unfold mkRA; split; rfl; rw [if_neg (fun h => h1 h.1)]
theorem mkRA_den {n : Bool} {N D : Nat} (h1 : ¬ (digs (D / Nat.gcd N D)).length ≤ 24) : mkRA n N D = zeroRA := by
  unfold mkRA; split; rfl; rw [if_neg (fun h => h1 h.2)]
theorem zeroRA_len : zeroRA.num.length ≤ 1048576 ∧ zeroRA.den.length ≤ 1048576 := ⟨by decide, by decide⟩
theorem mkRA_len (n : Bool) (N D : Nat) : (mkRA n N D).num.length ≤ 1048576 ∧ (mkRA n N D).den.length ≤ 1048576 := by
  unfold mkRA
  split
  · exact zeroRA_len
  · split
    · rename_i h; exact ⟨by show (digs _).length ≤ _; omega, by show (digs _).length ≤ _; omega⟩
    · exact zeroRA_len

section
variable {n : Bool} {xs ds : List Int}
theorem ratOk_parts (h : ratOkB n xs ds = true) : bigOkB n xs = true ∧ natOkB ds = true ∧ 0 < ds.length ∧ xs.length ≤ 24 ∧ ds.length ≤ 24 ∧ Nat.gcd (val xs) (val ds) = 1 := by
  unfold ratOkB at h
  simp only [Bool.and_eq_true, decide_eq_true_eq] at h
  exact ⟨h.1.1.1.1.1, h.1.1.1.1.2, h.1.1.1.2, h.1.1.2, h.1.2, h.2⟩
theorem ratOk_num (h : ratOkB n xs ds = true) : digs (val xs) = xs := ok_digs (bigOk_nat (ratOk_parts h).1)
theorem ratOk_den (h : ratOkB n xs ds = true) : digs (val ds) = ds := ok_digs (ratOk_parts h).2.1
theorem ratOk_pos (h : ratOkB n xs ds = true) : 0 < val ds := by
  have h1 := (ratOk_parts h).2.2.1
  rw [← ratOk_den h, digs_len_pos] at h1
  exact h1
end
/-- a valid fraction is its own lowest terms -/
theorem mkRA_ok {n : Bool} {xs ds : List Int} (h : ratOkB n xs ds = true) : mkRA n (val xs) (val ds) = ⟨n, xs, ds⟩ := by
  have p := ratOk_parts h
  rw [mkRA_fit (by have := ratOk_pos h; omega) (by rw [p.2.2.2.2.2, Nat.div_one, ratOk_num h]; exact p.2.2.2.1) (by rw [p.2.2.2.2.2, Nat.div_one, ratOk_den h]; exact p.2.2.2.2.1), p.2.2.2.2.2, Nat.div_one, Nat.div_one, ratOk_num h, ratOk_den h]
  congr 1
  have h1 := p.1
  unfold bigOkB at h1
  unfold mkBI
  cases n
  · rfl
  · simp at h1 ⊢; exact h1.2
theorem gcd_div_one {N D : Nat} (h : 0 < D) : Nat.gcd (N / Nat.gcd N D) (D / Nat.gcd N D) = 1 := by
  have hg : 0 < Nat.gcd N D := Nat.gcd_pos_of_pos_right _ h
  rw [Nat.gcd_div (Nat.gcd_dvd_left _ _) (Nat.gcd_dvd_right _ _), Nat.div_self hg]
/-- what is made is valid, or the zero value -/
theorem mkRA_or (n : Bool) (N D : Nat) : mkRA n N D = zeroRA ∨ ratOkB (mkRA n N D).neg (mkRA n N D).num (mkRA n N D).den = true := by
  by_cases h0 : D = 0
  · left; rw [h0]; exact mkRA_zero _ _
  · by_cases h1 : (digs (N / Nat.gcd N D)).length ≤ 24
    · by_cases h2 : (digs (D / Nat.gcd N D)).length ≤ 24
      · right
        have hg : 0 < Nat.gcd N D := Nat.gcd_pos_of_pos_right _ (by omega)
        have hd : 0 < D / Nat.gcd N D := Nat.div_pos (Nat.le_of_dvd (by omega) (Nat.gcd_dvd_right _ _)) hg
        rw [mkRA_fit h0 h1 h2]
        unfold ratOkB
        have e : bigOkB (mkBI n (digs (N / Nat.gcd N D))).neg (digs (N / Nat.gcd N D)) = true := by
          unfold bigOkB mkBI
          rw [digs_ok (by omega)]
          cases n <;> simp
        simp only [e, digs_ok (show (digs (D / Nat.gcd N D)).length ≤ 60 by omega), val_digs, gcd_div_one (show 0 < D by omega), decide_eq_true h1, decide_eq_true h2, decide_eq_true (digs_len_pos.2 hd), decide_true, Bool.and_self]
      · left; exact mkRA_den h2
    · left; exact mkRA_num h1

section
variable (n : Bool) (xs ds : List Int) (m : Bool) (ys es : List Int)
def ratAddP : RA := if ratOkB n xs ds && ratOkB m ys es then mkRAz (toI n xs * (val es : Nat) + toI m ys * (val ds : Nat)) (val ds * val es) else zeroRA
def ratSubP : RA := if ratOkB n xs ds && ratOkB m ys es then mkRAz (toI n xs * (val es : Nat) - toI m ys * (val ds : Nat)) (val ds * val es) else zeroRA
def ratMulP : RA := if ratOkB n xs ds && ratOkB m ys es then mkRA (n != m) (val xs * val ys) (val ds * val es) else zeroRA
def ratDivP : RA := if ratOkB n xs ds && ratOkB m ys es then mkRA (n != m) (val xs * val es) (val ds * val ys) else zeroRA
def ratNegP : RA := if ratOkB n xs ds then ⟨(mkBI (!n) xs).neg, xs, ds⟩ else zeroRA
def cmpZ (x y : Int) : Int := if x < y then -1 else if y < x then 1 else 0
def ratCmpV : Int := cmpZ (toI n xs * (val es : Nat)) (toI m ys * (val ds : Nat))
def ratCmpP : Int := if ratOkB n xs ds && ratOkB m ys es then ratCmpV n xs ds m ys es else 0
def ratSignP : Int := if ratOkB n xs ds then (if xs.length = 0 then 0 else if n then -1 else 1) else 0
def ratMinP : RA := if ratOkB n xs ds && ratOkB m ys es then (if ratCmpV n xs ds m ys es ≤ 0 then ⟨n, xs, ds⟩ else ⟨m, ys, es⟩) else zeroRA
def ratMaxP : RA := if ratOkB n xs ds && ratOkB m ys es then (if 0 ≤ ratCmpV n xs ds m ys es then ⟨n, xs, ds⟩ else ⟨m, ys, es⟩) else zeroRA
def ratMakeP : RA := if bigOkB n xs && bigOkB m ys then mkRA (n != m) (val xs) (val ys) else zeroRA
end
def ratOfP (n d : Int) : RA := mkRA (decide (n < 0) != decide (d < 0)) n.natAbs d.natAbs
end Go.Proofs.YtehhpkeabckdaaaGreatDoor
