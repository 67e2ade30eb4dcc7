/- Joined: RatsP, RatsV, RatsL. -/
import Derived.Test.YtehhpkeabckdaaaGreatDoorRatLaw2
import Derived.Test.YtehhpkeabckdaaaGreatDoorRatEq
import Derived.Test.YtehhpkeabckdaaaGreatDoorPRat
import Derived.Deep.RegionHeld3
import Derived.Deep.DeepCutAuto
import Derived.Test.YtehhpkeabckdaaaGreatDoorDrawW
import Derived.Test.YtehhpkeabckdaaaGreatDoorRatKLM
import Derived.Test.YtehhpkeabckdaaaGreatDoorRatS
import Derived.Test.YtehhpkeabckdaaaGreatDoorPRatI
import Derived.Test.YtehhpkeabckdaaaGreatDoorFmtRI
namespace Go.Proofs.YtehhpkeabckdaaaGreatDoor
set_option linter.unusedVariables false
set_option linter.unusedSimpArgs false
section
open Go.RowKit
theorem fmt_parse {m : Nat} (h : (digs m).length ≤ 3) : pnOk (fmtNat (digs m)) = true ∧ pnD (fmtNat (digs m)) = digs m := by
  have hok : natOkB (digs m) = true := digs_ok (by omega)
  have e : fmtNat (digs m) = ⟨(Lib.decDigits m).toArray⟩ := by
    rw [fmtNat_ok hok]
    unfold dT
    rw [List.drop_zero, val_digs]
  have hlt : m < 10 ^ (9 * 3) := by rw [← pw_ten]; exact digs_lt_pw h
  have hlen := dec_len 27 m (by omega) hlt
  have hk : pnOk ⟨(Lib.decDigits m).toArray⟩ = true := by
    have hd : isDigits ⟨(Lib.decDigits m).toArray⟩ = true := by
      unfold isDigits
      have h1 := allDig_dec m
      have h2 := dec_pos_len m
      rw [show (⟨(Lib.decDigits m).toArray⟩ : ByteArray).size = (Lib.decDigits m).length from List.size_toArray, decide_eq_true h2]
      simpa using h1
    have hs : (⟨(Lib.decDigits m).toArray⟩ : ByteArray).size = (Lib.decDigits m).length := List.size_toArray
    unfold pnOk
    rw [hd, hs, decide_eq_true (show (Lib.decDigits m).length ≤ 540 by omega)]
    rcases Nat.eq_zero_or_pos m with h0 | h0
    · rw [h0, decDigits_small (by decide)]; rfl
    · rw [decide_eq_true (show (⟨(Lib.decDigits m).toArray⟩ : ByteArray).data.toList.head? ≠ some 48 from dec_head h0)]; simp
  rw [e]
  refine ⟨hk, ?_⟩
  rw [pnD_yes hk]
  show digs (rd (Lib.decDigits m)) = _
  rw [rd_dec]
/-- the text of a number, read again -/
theorem big_text {z : Int} (h : (digs z.natAbs).length ≤ 3) : pbOk (fmtBig (ofI z).neg (ofI z).mag) = true ∧ pbV (fmtBig (ofI z).neg (ofI z).mag) = ofI z := by
  have h3 := fmt_parse h
  have hok : bigOkB (ofI z).neg (ofI z).mag = true := ofI_ok (Nat.le_trans h (by decide))
  obtain ⟨s, hs⟩ : ∃ s, s = fmtNat (digs z.natAbs) := ⟨_, rfl⟩
  have hs0 : s = fmtNat (ofI z).mag := hs
  rw [← hs] at h3
  have hpos : 0 < s.size := by
    have := pnOk_parts h3.1
    have h4 := this.1
    unfold isDigits at h4
    simp only [Bool.and_eq_true, decide_eq_true_eq] at h4
    exact h4.2
  cases hn : (ofI z).neg with
  | true =>
    have e : fmtBig true (ofI z).mag = ⟨#[45]⟩ ++ s := by
      unfold fmtBig
      rw [← hn, hok, hn, ← hs0]
      rfl
    rw [e]
    have hz : 0 < (⟨#[45]⟩ ++ s : ByteArray).size := by rw [ByteArray.size_append]; omega
    have h0 : (⟨#[45]⟩ ++ s : ByteArray)[0] = 45 := by
      rw [ByteArray.getElem_append_left (by decide)]
      rfl
    obtain ⟨h5, h6⟩ := pbNeg_yes hz h0
    have h7 : (⟨#[45]⟩ ++ s : ByteArray).extract 1 (⟨#[45]⟩ ++ s : ByteArray).size = s := by
      have e2 : (⟨#[45]⟩ ++ s : ByteArray).size = (⟨#[45]⟩ : ByteArray).size + s.size := ByteArray.size_append
      rw [e2]
      exact ByteArray.extract_append_eq_right rfl rfl
    rw [h7] at h6
    have hl : 0 < (pnD s).length := by
      rw [h3.2]
      have h8 := of_decide_eq_true (show decide (z < 0) = true from hn)
      exact digs_len_pos.2 (by omega)
    have hk : pbOk (⟨#[45]⟩ ++ s) = true := by unfold pbOk; rw [h5, h6, h3.1, decide_eq_true hl]; rfl
    refine ⟨hk, ?_⟩
    rw [pb_yes hk, h5, h6, h3.2, ← hn]
    rfl
  | false =>
    have e : fmtBig false (ofI z).mag = s := by
      unfold fmtBig
      rw [← hn, hok, hn, ← hs0]
      rfl
    rw [e]
    have hd := (pnOk_parts h3.1).1
    have h0 : ¬ s[0] = 45 := by
      intro h4
      unfold isDigits allDig at hd
      simp only [Bool.and_eq_true, List.all_eq_true] at hd
      have h9 := head_byte hpos
      rw [h4] at h9
      have h10 := hd.1 45 (List.mem_of_mem_head? h9)
      revert h10
      decide
    obtain ⟨h5, h6⟩ := pbNeg_no hpos h0
    have hk : pbOk s = true := by unfold pbOk; rw [h5, h6, h3.1]; rfl
    refine ⟨hk, ?_⟩
    rw [pb_yes hk, h5, h6, h3.2, ← hn]
    rfl
theorem mkRA_scale {k : Nat} (hk : 0 < k) (n : Bool) (A D : Nat) : mkRA n (k * A) (k * D) = mkRA n A D := by
  unfold mkRA
  rw [Nat.gcd_mul_left, Nat.mul_div_mul_left _ _ hk, Nat.mul_div_mul_left _ _ hk]
  by_cases h : D = 0
  · rw [if_pos h, if_pos (by rw [h, Nat.mul_zero])]
  · rw [if_neg h, if_neg (by intro e; rcases Nat.mul_eq_zero.1 e with h1 | h1 <;> omega)]
theorem mkRAz_scale {k : Nat} (hk : 0 < k) (N : Int) (D : Nat) : mkRAz ((k : Int) * N) (k * D) = mkRAz N D := by
  have e1 : decide ((k : Int) * N < 0) = decide (N < 0) := by
    rw [decide_eq_decide]
    constructor
    · intro h
      rcases Int.lt_or_le N 0 with h1 | h1
      · exact h1
      · have := Int.mul_nonneg (Int.natCast_nonneg k) h1; omega
    · intro h
      exact Int.mul_neg_of_pos_of_neg (by omega) h
  unfold mkRAz
  rw [e1, Int.natAbs_mul, Int.natAbs_natCast]
  exact mkRA_scale hk _ _ _
theorem mkRAz_cross {N M : Int} {D E : Nat} (hD : 0 < D) (hE : 0 < E) (h : N * E = M * D) : mkRAz N D = mkRAz M E := by
  rw [← mkRAz_scale hE N D, ← mkRAz_scale hD M E, Int.mul_comm (E : Int) N, h, Int.mul_comm M, Nat.mul_comm E D]
/-- r is the fraction N/D -/
def RatIs (r : RA) (N : Int) (D : Nat) : Prop := okRA r = true ∧ 0 < D ∧ toI r.neg r.num * (D : Int) = N * (val r.den : Nat)
theorem RatIs.pos {r : RA} {N : Int} {D : Nat} (h : RatIs r N D) : 0 < val r.den := ratOk_pos h.1
theorem ok_mk {r : RA} (h : okRA r = true) : r = mkRAz (toI r.neg r.num) (val r.den) := by
  have h1 := mkRA_ok h
  rw [mkRA_neg] at h1
  exact h1.symm
theorem RatIs.mk {r : RA} {N : Int} {D : Nat} (h : RatIs r N D) : r = mkRAz N D := by
  conv => lhs; rw [ok_mk h.1]
  exact mkRAz_cross h.pos h.2.1 h.2.2
theorem RatIs.eq {r s : RA} {N M : Int} {D E : Nat} (h : RatIs r N D) (k : RatIs s M E) (e : N * E = M * D) : r = s := by
  rw [h.mk, k.mk]
  exact mkRAz_cross h.2.1 k.2.1 e
/-- small enough for a fraction's parts -/
def Fit (N : Int) (D : Nat) : Prop := N.natAbs < 1000000000 ∧ 0 < D ∧ D < 1000000000
theorem fit_len {k : Nat} (h : k < 1000000000) : (digs k).length ≤ 1 := digs_len_le (by rw [show pw 1 = 1000000000 by decide]; exact h)
theorem fit_parts {N : Int} {D : Nat} (h : Fit N D) : (mkRAz N D).num = digs (N.natAbs / Nat.gcd N.natAbs D) ∧ (mkRAz N D).den = digs (D / Nat.gcd N.natAbs D) ∧
    (mkRAz N D).neg = (mkBI (decide (N < 0)) (digs (N.natAbs / Nat.gcd N.natAbs D))).neg ∧ (digs (N.natAbs / Nat.gcd N.natAbs D)).length ≤ 1 ∧ (digs (D / Nat.gcd N.natAbs D)).length ≤ 1 := by
  have l1 := fit_len (Nat.lt_of_le_of_lt (Nat.div_le_self N.natAbs (Nat.gcd N.natAbs D)) h.1)
  have l2 := fit_len (Nat.lt_of_le_of_lt (Nat.div_le_self D (Nat.gcd N.natAbs D)) h.2.2)
  have e : mkRAz N D = _ := mkRA_fit (n := decide (N < 0)) (N := N.natAbs) (D := D) (by have := h.2.1; omega) (by omega) (by omega)
  rw [e]
  exact ⟨rfl, rfl, rfl, l1, l2⟩
theorem fit_is {N : Int} {D : Nat} (h : Fit N D) : RatIs (mkRAz N D) N D := by
  obtain ⟨p1, p2, p3, l1, l2⟩ := fit_parts h
  obtain ⟨h0, hD, hD2⟩ := h
  obtain ⟨g, hg⟩ : ∃ g, g = Nat.gcd N.natAbs D := ⟨_, rfl⟩
  have hg0 : 0 < g := by rw [hg]; exact Nat.gcd_pos_of_pos_right _ hD
  have d1 : g ∣ N.natAbs := by rw [hg]; exact Nat.gcd_dvd_left _ _
  have d2 : g ∣ D := by rw [hg]; exact Nat.gcd_dvd_right _ _
  rw [← hg] at p1 p2 p3
  have hq : 0 < D / g := Nat.div_pos (Nat.le_of_dvd hD d2) hg0
  refine ⟨?_, hD, ?_⟩
  · rcases mkRA_or (decide (N < 0)) N.natAbs D with h1 | h1
    · exfalso
      have h2 : (mkRAz N D).den = [] := by unfold mkRAz; rw [h1]; rfl
      rw [p2] at h2
      have := digs_nil_iff.1 h2
      omega
    · exact h1
  · rw [p1, p2, p3, val_digs]
    have e : toI (mkBI (decide (N < 0)) (digs (N.natAbs / g))).neg (digs (N.natAbs / g)) = (if decide (N < 0) then -((N.natAbs / g : Nat) : Int) else ((N.natAbs / g : Nat) : Int)) := by
      have h1 := mkBI_any (decide (N < 0)) (N.natAbs / g)
      have h2 := toI_ofI (if decide (N < 0) then -((N.natAbs / g : Nat) : Int) else ((N.natAbs / g : Nat) : Int))
      rw [← h1] at h2
      exact h2
    rw [e]
    obtain ⟨q, hq1⟩ := d1
    obtain ⟨d, hd1⟩ := d2
    have e1 : N.natAbs / g = q := by rw [hq1]; exact Nat.mul_div_cancel_left _ hg0
    have e2 : D / g = d := by rw [hd1]; exact Nat.mul_div_cancel_left _ hg0
    have e3 : N = if decide (N < 0) then -((g * q : Nat) : Int) else ((g * q : Nat) : Int) := by
      cases h3 : decide (N < 0) with
      | true => have := of_decide_eq_true h3; rw [if_pos rfl]; omega
      | false => have := of_decide_eq_false h3; rw [if_neg Bool.false_ne_true]; omega
    rw [e1, e2]
    cases h3 : decide (N < 0) with
    | true =>
      rw [h3, if_pos rfl] at e3
      rw [if_pos rfl, e3, hd1, Int.natCast_mul, Int.natCast_mul, Int.neg_mul, Int.neg_mul]
      congr 1
      rw [← Int.mul_assoc, Int.mul_comm (q : Int) (g : Int)]
    | false =>
      rw [h3, if_neg Bool.false_ne_true] at e3
      rw [if_neg Bool.false_ne_true, e3, hd1, Int.natCast_mul, Int.natCast_mul]
      rw [← Int.mul_assoc, Int.mul_comm (q : Int) (g : Int)]
theorem RatIs.small {r : RA} {N : Int} {D : Nat} (h : RatIs r N D) (hf : Fit N D) : r.num.length ≤ 1 ∧ r.den.length ≤ 1 := by
  obtain ⟨p1, p2, p3, l1, l2⟩ := fit_parts hf
  rw [h.mk, p1, p2]
  exact ⟨l1, l2⟩
theorem RatIs.turn {N M : Int} {D E : Nat} (hf : Fit N D) (hE : 0 < E) (h : M * D = N * E) : RatIs (mkRAz M E) N D := by
  rw [mkRAz_cross hE hf.2.1 h]
  exact fit_is hf
theorem cross4 {r : RA} {N : Int} {D : Nat} (h : RatIs r N D) (s : RA) (E : Nat) : (toI r.neg r.num * (val s.den : Nat)) * ((D * E : Nat) : Int) = (N * E) * ((val r.den * val s.den : Nat) : Int) := by
  have h1 := h.2.2
  rw [Int.natCast_mul, Int.natCast_mul]
  calc toI r.neg r.num * (val s.den : Int) * ((D : Int) * E) = toI r.neg r.num * D * (val s.den * E) := by ac_rfl
    _ = N * val r.den * (val s.den * E) := by rw [h1]
    _ = _ := by ac_rfl
theorem cross4' {s : RA} {M : Int} {E : Nat} (k : RatIs s M E) (r : RA) (D : Nat) : (toI s.neg s.num * (val r.den : Nat)) * ((D * E : Nat) : Int) = (M * D) * ((val r.den * val s.den : Nat) : Int) := by
  have h1 := k.2.2
  rw [Int.natCast_mul, Int.natCast_mul]
  calc toI s.neg s.num * (val r.den : Int) * ((D : Int) * E) = toI s.neg s.num * E * (val r.den * D) := by ac_rfl
    _ = M * val s.den * (val r.den * D) := by rw [h1]
    _ = _ := by ac_rfl
theorem cmpZ_scale {X X' Y Y' : Int} {P Q : Nat} (hP : 0 < P) (hQ : 0 < Q) (e1 : X * P = Y * Q) (e2 : X' * P = Y' * Q) : cmpZ X X' = cmpZ Y Y' := by
  have a : ∀ {x y : Int} {R : Nat}, 0 < R → (x < y ↔ x * (R : Int) < y * R) := fun hR => ⟨fun h => Int.mul_lt_mul_of_pos_right h (by omega), fun h => Int.lt_of_mul_lt_mul_right h (by omega)⟩
  have b1 : X < X' ↔ Y < Y' := by rw [a hP, e1, e2, ← a hQ]
  have b2 : X' < X ↔ Y' < Y := by rw [a hP, e1, e2, ← a hQ]
  unfold cmpZ
  by_cases h1 : Y < Y'
  · rw [if_pos h1, if_pos (b1.2 h1)]
  · rw [if_neg h1, if_neg (fun h => h1 (b1.1 h))]
    by_cases h2 : Y' < Y
    · rw [if_pos h2, if_pos (b2.2 h2)]
    · rw [if_neg h2, if_neg (fun h => h2 (b2.1 h))]
section
variable {r s : RA} {N M : Int} {D E : Nat} (h : RatIs r N D) (k : RatIs s M E)
include h k
theorem add_is (hf : Fit (N * E + M * D) (D * E)) : RatIs (ratAddP r.neg r.num r.den s.neg s.num s.den) (N * E + M * D) (D * E) := by
  rw [ratAddP_yes h.1 k.1]
  refine RatIs.turn hf (Nat.mul_pos h.pos k.pos) ?_
  rw [Int.add_mul, Int.add_mul, cross4 h s E, cross4' k r D]
theorem sub_is (hf : Fit (N * E - M * D) (D * E)) : RatIs (ratSubP r.neg r.num r.den s.neg s.num s.den) (N * E - M * D) (D * E) := by
  rw [ratSubP_yes h.1 k.1]
  refine RatIs.turn hf (Nat.mul_pos h.pos k.pos) ?_
  rw [Int.sub_mul, Int.sub_mul, cross4 h s E, cross4' k r D]
theorem mul_is (hf : Fit (N * M) (D * E)) : RatIs (ratMulP r.neg r.num r.den s.neg s.num s.den) (N * M) (D * E) := by
  rw [ratMulP_yes h.1 k.1, mkRA_neg, ← toI_mul]
  refine RatIs.turn hf (Nat.mul_pos h.pos k.pos) ?_
  have h1 := h.2.2
  have h2 := k.2.2
  rw [Int.natCast_mul, Int.natCast_mul]
  calc toI r.neg r.num * toI s.neg s.num * ((D : Int) * E) = (toI r.neg r.num * D) * (toI s.neg s.num * E) := by ac_rfl
    _ = (N * val r.den) * (M * val s.den) := by rw [h1, h2]
    _ = _ := by ac_rfl
theorem cmpV_is : ratCmpV r.neg r.num r.den s.neg s.num s.den = cmpZ (N * E) (M * D) :=
  cmpZ_scale (Nat.mul_pos h.2.1 k.2.1) (Nat.mul_pos h.pos k.pos) (cross4 h s E) (cross4' k r D)
theorem cmp_is : ratCmpP r.neg r.num r.den s.neg s.num s.den = cmpZ (N * E) (M * D) := by
  rw [ratCmpP_yes h.1 k.1]; exact cmpV_is h k
theorem same_is (e : N * E = M * D) : ratEqB r.neg r.num r.den s.neg s.num s.den = true := by
  rw [h.eq k e]
  unfold ratEqB
  simp
theorem first_is : RatIs r (N * E) (D * E) := by
  refine ⟨h.1, Nat.mul_pos h.2.1 k.2.1, ?_⟩
  rw [Int.natCast_mul, ← Int.mul_assoc, h.2.2]
  ac_rfl
theorem second_is : RatIs s (M * D) (D * E) := by
  refine ⟨k.1, Nat.mul_pos h.2.1 k.2.1, ?_⟩
  rw [Int.natCast_mul, Int.mul_comm (D : Int), ← Int.mul_assoc, k.2.2]
  ac_rfl
theorem min_is : RatIs (ratMinP r.neg r.num r.den s.neg s.num s.den) (if N * E ≤ M * D then N * E else M * D) (D * E) := by
  have hc := cmpV_is h k
  by_cases h1 : N * E ≤ M * D
  · rw [ratMinP_le h.1 k.1 (by rw [hc]; unfold cmpZ; split; decide; rw [if_neg (by omega)]; decide), if_pos h1]
    exact first_is h k
  · rw [ratMinP_gt h.1 k.1 (by rw [hc]; unfold cmpZ; rw [if_neg (by omega), if_pos (by omega)]; decide), if_neg h1]
    exact second_is h k
theorem max_is : RatIs (ratMaxP r.neg r.num r.den s.neg s.num s.den) (if M * D ≤ N * E then N * E else M * D) (D * E) := by
  have hc := cmpV_is h k
  by_cases h1 : M * D ≤ N * E
  · rw [ratMaxP_le h.1 k.1 (by rw [hc]; unfold cmpZ; rw [if_neg (by omega)]; split <;> decide), if_pos h1]
    exact first_is h k
  · rw [ratMaxP_gt h.1 k.1 (by rw [hc]; unfold cmpZ; rw [if_pos (by omega)]; decide), if_neg h1]
    exact second_is h k
end
section
variable {r s : RA} {N M : Int} {D E : Nat}
theorem sign_is (h : RatIs r N D) : ratSignP r.neg r.num r.den = signZ N := by
  have h0 : ratOkB r.neg r.num r.den = true := h.1
  have h1 := h.2.2
  have hp := h.pos
  have hD := h.2.1
  have hd := ratOk_num h0
  have hb := bigOk_neg_pos (ratOk_parts h0).1
  have hl : r.num.length = 0 ↔ val r.num = 0 := by
    have := @digs_len_pos (val r.num)
    rw [hd] at this
    omega
  have hs : signZ (toI r.neg r.num) = signZ N := by
    have h2 := cmpZ_scale (X := toI r.neg r.num) (X' := 0) (Y := N) (Y' := 0) (P := D) (Q := val r.den) hD hp h1 (by rw [Int.zero_mul, Int.zero_mul])
    have h3 := signZ_sub (toI r.neg r.num) 0
    have h4 := signZ_sub N 0
    rw [Int.sub_zero] at h3 h4
    rw [h3, h4, h2]
  rw [← hs]
  unfold ratSignP
  rw [h0, if_pos rfl]
  unfold signZ toI
  by_cases hz : val r.num = 0
  · rw [if_pos (hl.2 hz), hz]
    cases r.neg <;> decide
  · rw [if_neg (fun e => hz (hl.1 e))]
    cases hn : r.neg with
    | true => rw [if_pos rfl, if_pos rfl, if_pos (by omega)]
    | false => rw [if_neg Bool.false_ne_true, if_neg Bool.false_ne_true, if_neg (by omega), if_pos (by omega)]
theorem inv_is (k : RatIs s M E) (h0 : M ≠ 0) : 0 < s.num.length ∧ RatIs ⟨s.neg, s.den, s.num⟩ (E * M.sign) M.natAbs := by
  have h1 := k.2.2
  have hp := k.pos
  have hE := k.2.1
  have hd := ratOk_num k.1
  have hv : val s.num ≠ 0 := by
    intro e
    have h3 : toI s.neg s.num = 0 := by unfold toI; rw [e]; simp
    rw [h3, Int.zero_mul] at h1
    rcases Int.mul_eq_zero.1 h1.symm with h4 | h4
    · exact h0 h4
    · omega
  have hl : 0 < s.num.length := by
    have := @digs_len_pos (val s.num)
    rw [hd] at this
    omega
  refine ⟨hl, ratOk_inv k.1 hl, by omega, ?_⟩
  show toI s.neg s.den * (M.natAbs : Int) = E * M.sign * (val s.num : Nat)
  unfold toI at h1 ⊢
  have hq : 0 < (val s.num : Int) * E := Int.mul_pos (by omega) (by omega)
  have hden : (0 : Int) < (val s.den : Nat) := by omega
  cases hn : s.neg with
  | true =>
    rw [hn, if_pos rfl, Int.neg_mul] at h1
    have hM : M < 0 := by
      rcases Int.lt_or_le M 0 with h4 | h4
      · exact h4
      · have := Int.mul_nonneg h4 (Int.le_of_lt hden); omega
    rw [if_pos rfl, Int.sign_eq_neg_one_of_neg hM, show (M.natAbs : Int) = -M by omega, Int.neg_mul_neg, Int.mul_comm, ← h1, Int.mul_neg_one, Int.neg_mul, Int.mul_comm]
  | false =>
    rw [hn, if_neg Bool.false_ne_true] at h1
    have hM : 0 < M := by
      rcases Int.lt_or_le 0 M with h4 | h4
      · exact h4
      · have := Int.mul_nonneg (a := -M) (b := (val s.den : Nat)) (by omega) (Int.le_of_lt hden)
        rw [Int.neg_mul] at this
        omega
    rw [if_neg Bool.false_ne_true, Int.sign_eq_one_of_pos hM, show (M.natAbs : Int) = M by omega, Int.mul_one, Int.mul_comm, ← h1, Int.mul_comm]
theorem div_is (h : RatIs r N D) (k : RatIs s M E) (h0 : M ≠ 0) (hf : Fit (N * (E * M.sign)) (D * M.natAbs)) : RatIs (ratDivP r.neg r.num r.den s.neg s.num s.den) (N * (E * M.sign)) (D * M.natAbs) := by
  obtain ⟨hl, hi⟩ := inv_is k h0
  rw [ratDiv_inv h.1 k.1 hl]
  have h2 := mul_is (N := N) (M := E * M.sign) (D := D) (E := M.natAbs) h hi hf
  exact h2
theorem of_is (a : Int) (d : Nat) (h : Fit a d) : RatIs (ratOfP a d) a d := by
  have e : ratOfP a d = mkRAz a d := by
    unfold ratOfP mkRAz
    rw [show decide ((d : Int) < 0) = false from decide_eq_false (by omega), Int.natAbs_natCast]
    congr 1
    cases decide (a < 0) <;> rfl
  rw [e]
  exact fit_is h
end
/-- the text of a fraction, read again -/
theorem rat_text {r : RA} {N : Int} {D : Nat} (h : RatIs r N D) (hf : Fit N D) : prOk (fmtRat r.neg r.num r.den) = true ∧ prV (fmtRat r.neg r.num r.den) = r := by
  have h0 : ratOkB r.neg r.num r.den = true := h.1
  have hs := h.small hf
  have p := ratOk_parts h0
  have eb : (ofI (toI r.neg r.num)) = ⟨r.neg, r.num⟩ := ofI_toI p.1
  have ht := big_text (z := toI r.neg r.num) (by rw [toI_natAbs, ratOk_num h0]; omega)
  rw [eb] at ht
  have hden := fmt_parse (m := val r.den) (by rw [ratOk_den h0]; omega)
  rw [ratOk_den h0] at hden
  by_cases h1 : val r.den = 1
  · have e : fmtRat r.neg r.num r.den = fmtBig r.neg r.num := by unfold fmtRat; rw [if_pos h0, if_pos h1]
    have hd1 : r.den = [1] := by rw [← ratOk_den h0, h1, digs_pos (by decide), show (1 : Nat) / 1000000000 = 0 from rfl, digs_zero]; rfl
    rw [e]
    obtain ⟨s, hs⟩ : ∃ s, s = fmtBig r.neg r.num := ⟨_, rfl⟩
    have hc : s.data.toList.count 47 = 0 := by rw [hs]; exact fmtBig_count _ _
    have hi : Lib.indexByte s.data.toList 47 = -1 := by
      rcases index_or s.data.toList with h2 | ⟨o, h2⟩
      · exact h2
      · have := count_pos (Lib.indexByte_some h2).1; omega
    obtain ⟨m1, m2, _⟩ := pr_miss hi
    have m3 : prD s = ⟨#[49]⟩ := by unfold prD; rw [m2]; rfl
    rw [← hs] at e ht ⊢
    have hok : prOk s = true := by
      unfold prOk prF
      rw [m1, m3, ht.1, ht.2, pn_one.1, pn_one.2]
      show decide (fmtRat r.neg r.num [1] = s) = true
      rw [← hd1, e]
      exact decide_eq_true rfl
    refine ⟨hok, ?_⟩
    rw [pr_yes hok, m1, m3, ht.2, pn_one.2, ← hd1]
  · have e : fmtRat r.neg r.num r.den = fmtBig r.neg r.num ++ ⟨#[47]⟩ ++ fmtNat r.den := by unfold fmtRat; rw [if_pos h0, if_neg h1]
    obtain ⟨s, hs⟩ : ∃ s, s = fmtRat r.neg r.num r.den := ⟨_, rfl⟩
    obtain ⟨A, hA⟩ : ∃ A, A = (fmtBig r.neg r.num).data.toList := ⟨_, rfl⟩
    obtain ⟨B, hB⟩ : ∃ B, B = (fmtNat r.den).data.toList := ⟨_, rfl⟩
    have el : s.data.toList = A ++ 47 :: B := by
      rw [hs, e, app_data, app_data, hA, hB, List.append_assoc]; rfl
    have hc : A.count 47 = 0 := by rw [hA]; exact fmtBig_count _ _
    have hi : Lib.indexByte s.data.toList 47 = (A.length : Nat) := by
      rcases index_or s.data.toList with h2 | ⟨o, h2⟩
      · exfalso
        have h3 := Lib.indexByte_none h2
        rw [el] at h3
        exact h3 A.length (by simp)
      · rw [h2]
        obtain ⟨h3, h4⟩ := Lib.indexByte_some h2
        rw [el] at h3 h4
        congr 1
        rcases Nat.lt_trichotomy o A.length with h5 | h5 | h5
        · exfalso
          rw [List.getElem?_append_left h5] at h3
          have := count_pos h3; omega
        · exact h5
        · exfalso
          exact absurd (h4 A.length h5) (by simp)
    have hL : prL s = (A, B, true) := by
      have h2 : prL s = (s.data.toList.take A.length, s.data.toList.drop (A.length + 1), true) := cut_at hi
      rw [h2, el]
      congr 1
      · rw [List.take_left']; rfl
      · congr 1
        rw [List.drop_append, List.drop_eq_nil_of_le (by omega)]
        simp
    have m1 : prN s = fmtBig r.neg r.num := by
      unfold prN; rw [hL, hA]
    have m2 : prD s = fmtNat r.den := by
      unfold prD prH prC; rw [hL, hB, if_pos rfl]
    rw [← hs]
    have hok : prOk s = true := by
      unfold prOk prF
      rw [m1, m2, ht.1, ht.2, hden.1, hden.2]
      show decide (fmtRat r.neg r.num r.den = s) = true
      exact decide_eq_true hs.symm
    refine ⟨hok, ?_⟩
    rw [pr_yes hok, m1, m2, ht.2, hden.2]
end
section
open Go.RowKit
theorem box_past {W W' : World} {C B : Nat} {cs : Array Value} (h : Box W B cs) (s : Step C W W') (hne : B ≠ C) : Box W' B cs := by
  obtain ⟨t, h⟩ := h
  exact ⟨t, by rw [s.block B (Array.getElem?_eq_some_iff.1 h).1 (fun e => hne (Option.some.inj e))]; exact h⟩
set_option maxRecDepth 100000 in
set_option maxHeartbeats 1000000 in
theorem l01Pick_any {lo : Nat} {a : Option Addr} {cap : Nat} {xs : List Int} {W : World} {C : Nat} (h : CurAt lo a cap xs W C) (G : Nat) (ys : List Int) (hG : G ≠ C) (hlt : G < W.heap.size)
    (hc : ∀ j, j < ys.length → W.cell? ⟨G, j, none⟩ = some (.int .i64 (ys.getD j 0))) (hp : 0 < ys.length) (hl : ys.length ≤ 1000) :
    Calls Tryz.prog 40 #[.pointer (some ⟨C, 0, none⟩), .slice (some ⟨G, 0, none⟩) ys.length ys.length] W fun e W' => ∃ k : Nat, k < ys.length ∧ e = .returned (.int .i64 (ys.getD k 0)) ∧ CurAt lo a cap xs W' C ∧ Step C W W' := by
  have HC := Lib.hid h
  have HY := Lib.hid hc
  clear h hc
  go_enter Tryz.func40, Tryz.ntmps40
  go_wp2_with fail
  refine (l01Below_any HC.out ys.length (by omega) (by omega)).mono ?_
  rintro e W1 ⟨x, rfl, hx0, hx1, h1, s1⟩
  obtain ⟨k, rfl⟩ : ∃ k : Nat, x = k := ⟨x.toNat, by omega⟩
  have hk : k < ys.length := by omega
  have hcell : W1.cell? ⟨G, k, none⟩ = some (.int .i64 (ys.getD k 0)) := (World.cell?_of_block (s1.block G hlt (fun e => hG (Option.some.inj e)))).trans (HY.out k hk)
  have H1 := Lib.hid h1
  have S1 := Lib.hid s1
  obtain ⟨y, hy⟩ : ∃ y, y = ys.getD k 0 := ⟨_, rfl⟩
  rw [← hy] at hcell
  have HYY := Lib.hid hy
  clear h1 s1 hy
  go_wp2
  go_ret
  exact ⟨k, hk, by (try rw [HYY.out]); rfl, H1.out, S1.out⟩
def fewL : List Int := [1, 1, 1, 2, 3]
theorem few_any : ∀ k, k < 5 → ∃ d : Nat, fewL.getD k 0 = d ∧ 0 < d ∧ d ≤ 3 := by
  intro k hk
  match k, hk with
  | 0, _ => exact ⟨1, rfl, by decide, by decide⟩
  | 1, _ => exact ⟨1, rfl, by decide, by decide⟩
  | 2, _ => exact ⟨1, rfl, by decide, by decide⟩
  | 3, _ => exact ⟨2, rfl, by decide, by decide⟩
  | 4, _ => exact ⟨3, rfl, by decide, by decide⟩
/-- a value that is the fraction N/D, in its one form -/
def RatAt (w : World) (v : Value) (N : Int) (D : Nat) : Prop := ∃ r p c p2 c2, v = .agg #[.bool r.neg, .slice p r.num.length c, .slice p2 r.den.length c2] ∧ IntsAt w p c r.num ∧ IntsAt w p2 c2 r.den ∧ RatIs r N D
theorem RatAt.below {w w' : World} {v : Value} {N : Int} {D : Nat} (h : RatAt w v N D) (b : Below w.heap.size w w') : RatAt w' v N D := by
  obtain ⟨r, p, c, p2, c2, h1, h2, h3, h4⟩ := h
  exact ⟨r, p, c, p2, c2, h1, h2.below b, h3.below b, h4⟩
theorem RatAt.form {w : World} {v : Value} {N : Int} {D : Nat} (h : RatAt w v N D) : ∃ (n : Bool) (p : Option Addr) (l c : Nat) (p2 : Option Addr) (l2 c2 : Nat), v = .agg #[.bool n, .slice p l c, .slice p2 l2 c2] := by
  obtain ⟨r, p, c, p2, c2, h1, _⟩ := h
  exact ⟨_, p, _, c, p2, _, c2, h1⟩
theorem rat_ret {w w' : World} {r : RA} {e : Ending} {N : Int} {D : Nat} (h : RatRet w r e w') (k : RatIs r N D) : ∃ x, e = .returned x ∧ RatAt w' x N D ∧ Below w.heap.size w w' := by
  obtain ⟨p, c, p2, c2, h1, ⟨m, _, _, h2, h3⟩, h4⟩ := h
  exact ⟨_, h1, ⟨r, p, c, p2, c2, rfl, h2.ints, h3.ints, k⟩, h4⟩
theorem RatIs.len {r : RA} {N : Int} {D : Nat} (h : RatIs r N D) : r.num.length ≤ 1048576 ∧ r.den.length ≤ 1048576 := by
  have p := ratOk_parts h.1
  omega
set_option maxRecDepth 100000 in
set_option maxHeartbeats 2000000 in
theorem l04Few_any {lo : Nat} {a : Option Addr} {cap : Nat} {xs : List Int} {W : World} {C : Nat} (h : CurAt lo a cap xs W C) (hlw : lo ≤ W.heap.size) :
    Calls Tryz.prog 16 #[.pointer (some ⟨C, 0, none⟩)] W fun e W' => ∃ (N : Int) (D : Nat) (n : Bool) (p : Option Addr) (l c : Nat) (p2 : Option Addr) (l2 c2 : Nat), e = .returned (.agg #[.bool n, .slice p l c, .slice p2 l2 c2]) ∧ N.natAbs ≤ 10 ∧ 0 < D ∧ D ≤ 3 ∧
      n = (ratOfP N D).neg ∧ l = (ratOfP N D).num.length ∧ l2 = (ratOfP N D).den.length ∧ TwoF W' W.heap.size (.slice p (ratOfP N D).num.length c) (.slice p2 (ratOfP N D).den.length c2) (ratOfP N D).num (ratOfP N D).den ∧ Below lo W W' := by
  have hCl : C < W.heap.size := by obtain ⟨i, hh, hi, hb⟩ := h.box; exact hb.lt
  have HC := Lib.hid h
  clear h
  have hlo := HC.out.low
  go_enter Tryz.func16, Tryz.ntmps16
  go_wp2_with fail
  refine (l01Below_any (HC.out.keep (ba1 _ _)) 21 (by omega) (by omega)).mono ?_
  rintro e W1 ⟨x, rfl, hx0, hx1, h1, s1⟩
  have H1 := Lib.hid h1
  have S1 : Hid (Step C W W1) := (Step.of_below (ba1 _ _)).trans s1
  have R1 := Lib.hid (box_past (bx1_0 (Below.refl _ _)) s1 (by omega : W.heap.size ≠ C))
  have hz1 : W.heap.size < W1.heap.size := R1.out.lt
  clear h1 s1
  have hcells : ∀ j, j < fewL.length → (W1.alloc (.cells #[.int .i64 1, .int .i64 1, .int .i64 1, .int .i64 2, .int .i64 3] 3)).cell? ⟨W1.heap.size, j, none⟩ = some (.int .i64 (fewL.getD j 0)) := by
    intro j hj
    rw [World.cell?_alloc_at _ _ _ _ rfl]
    have hj5 : j < 5 := hj
    match j, hj5 with
    | 0, _ => rfl
    | 1, _ => rfl
    | 2, _ => rfl
    | 3, _ => rfl
    | 4, _ => rfl
  have HCE := Lib.hid hcells
  clear hcells
  go_wp2_with fail
  refine (l01Pick_any (H1.out.keep (ba1 _ _)) W1.heap.size fewL (by omega) (by simp) HCE.out (by show 0 < 5; omega) (by show 5 ≤ 1000; omega)).mono ?_
  rintro e W2 ⟨k, hk, rfl, h2, s2⟩
  obtain ⟨d, hd, hd0, hd3⟩ := few_any k hk
  rw [hd]
  have S2 : Hid (Step C W W2) := (S1.out.trans (Step.of_below (ba1 _ _))).trans s2
  have R2 := Lib.hid (box_past (box_step R1.out (ba1 _ _)) s2 (by omega : W.heap.size ≠ C))
  have hz2 : W.heap.size < W2.heap.size := R2.out.lt
  clear h2 s2 hd hk
  go_wp2_with fail
  refine (specRatOf_own (x - 10) (d : Int) _ (by unfold In64; omega) (by unfold In64; omega)).mono ?_
  rintro e W3 ⟨p, c, p2, c2, rfl, ho, b3⟩
  have HO := Lib.hid ho
  have S3 : Hid (Step C W W3) := S2.out.trans (Step.of_below b3)
  have R3 := box_step R2.out b3
  have Y0 := R3.cell 0 rfl
  have Y1 := R3.cell 1 rfl
  have Y2 := R3.cell 2 rfl
  have F0 := R3.frozen 0
  have F1 := R3.frozen 1
  have F2 := R3.frozen 2
  have hz3 := R3.lt
  clear ho b3
  obtain ⟨N, hN⟩ : ∃ N, N = x - 10 := ⟨_, rfl⟩
  have hNb : N.natAbs ≤ 10 := by omega
  rw [← hN] at HO ⊢
  clear hN hx0 hx1
  obtain ⟨n, hn⟩ : ∃ n, n = (ratOfP N d).neg := ⟨_, rfl⟩
  obtain ⟨l, hl⟩ : ∃ l, l = (ratOfP N d).num.length := ⟨_, rfl⟩
  obtain ⟨l2, hl2⟩ : ∃ l, l = (ratOfP N d).den.length := ⟨_, rfl⟩
  have HN := Lib.hid hn
  have HL := Lib.hid hl
  have HL2 := Lib.hid hl2
  rw [← hn, ← hl, ← hl2]
  clear hn hl hl2
  go_wp2
  refine bodyPost_ret (v := .agg #[.bool n, .slice p l c, .slice p2 l2 c2]) (by simp [results, Tryz.results16, go_sem, Y0, Y1, Y2, hz3]) rfl ⟨N, d, n, p, l, c, p2, l2, c2, rfl, hNb, hd0, hd3, HN.out, HL.out, HL2.out, ?_, ?_⟩
  · exact (((HO.out.put hz2).put hz2).put hz2).mono (by omega)
  · exact below_put (below_put (below_put (S3.out.below hlo hlw) hlw) hlw) hlw
theorem small_fit {N : Int} {D : Nat} (h : N.natAbs ≤ 10) (h0 : 0 < D) (h3 : D ≤ 3) : Fit N D := ⟨by omega, h0, by omega⟩
set_option maxRecDepth 100000 in
set_option maxHeartbeats 1000000 in
theorem makeRat_any (a : Option Addr) (cap : Nat) (xs : List Int) (w : World) (h : BytesAt w a cap xs) (hl : xs.length ≤ 1048576) (n : Nat) (hn : n ≤ 100) :
    Calls Tryz.prog 4 #[.slice a xs.length cap, .int .i64 n] w fun e W' => ∃ (N : Int) (D : Nat) (v : Value), e = .returned v ∧ N.natAbs ≤ 10 ∧ 0 < D ∧ D ≤ 3 ∧ RatAt W' v N D ∧ Below w.heap.size w W' := by
  have hmul : (3 : Int) * n = ((3 * n : Nat) : Int) := by omega
  have HM := Lib.hid hmul
  clear hmul
  go_enter Tryz.func4, Tryz.ntmps4
  go_wp2_with fail
  try rw [HM.out]
  refine (l31New_any a cap xs _ (h.step (ba1 _ _) (bytes_apart h)) hl (3 * n) (by omega)).mono ?_
  rintro e W1 ⟨C, rfl, h1, b1⟩
  have H1 := Lib.hid h1
  have R1 := Lib.hid (bx1_0 b1)
  have B1 := Lib.hid (bstep (ba1 _ _) b1)
  have hz1 : w.heap.size < W1.heap.size := R1.out.lt
  clear b1 h1
  have hsz1 := B1.out.size
  have hlow := H1.out.low
  have hlow' : w.heap.size + 1 ≤ C := by simpa using hlow
  clear hlow
  go_wp2_with fail
  refine (l04Few_any H1.out (by simp; omega)).mono ?_
  rintro e W2 ⟨N, D, n, p, l, c, p2, l2, c2, rfl, hN, hD0, hD3, e1, e2, e3, o2, b2⟩
  have R2 : Box W2 w.heap.size #[.bool false, .slice none 0 0, .slice none 0 0] := by
    obtain ⟨t, hb⟩ := R1.out
    exact ⟨t, by rw [b2.block _ (by simp)]; exact hb⟩
  have B2 : Hid (Below w.heap.size w W2) := B1.out.trans (b2.mono (by simp))
  have HO := Lib.hid o2
  have Y0 := R2.cell 0 rfl
  have Y1 := R2.cell 1 rfl
  have Y2 := R2.cell 2 rfl
  have F0 := R2.frozen 0
  have F1 := R2.frozen 1
  have F2 := R2.frozen 2
  have hz2 := R2.lt
  have HN := Lib.hid e1
  have HL := Lib.hid e2
  have HL2 := Lib.hid e3
  clear o2 b2 e1 e2 e3
  go_wp2
  have HF := (((HO.out.put (k := 0) (x := .bool n) hz1).put (k := 1) (x := .slice p l c) hz1).put (k := 2) (x := .slice p2 l2 c2) hz1)
  refine bodyPost_ret (v := .agg #[.bool n, .slice p l c, .slice p2 l2 c2]) (by simp [results, Tryz.results4, go_sem, Y0, Y1, Y2, hz2]) rfl ⟨N, D, _, rfl, hN, hD0, hD3, ⟨ratOfP N D, p, c, p2, c2, by rw [HN.out, HL.out, HL2.out], HF.i1, HF.i2, of_is N D (small_fit hN hD0 hD3)⟩, ?_⟩
  exact ((B2.out.setCell (by simp) _).setCell (by simp) _).setCell (by simp) _
section
variable {w : World} {u v : Value} {N M : Int} {D E : Nat} (hu : RatAt w u N D)
include hu
theorem rat_sign {g : Int} (hg : signZ N = g) : Calls Tryz.prog 11 #[u] w fun e w' => e = .returned (.int .i64 g) ∧ Below w.heap.size w w' := by
  obtain ⟨r, p, c, p2, c2, rfl, h1, h2, h3⟩ := hu
  have h := implRatSign_any r.neg p c r.num p2 c2 r.den w h1 h3.len.1 h2 h3.len.2
  rw [sign_is h3, hg] at h
  exact h
theorem rat_fmt (ht : Tab w) : Calls Tryz.prog 6 #[u] w fun e w' => ∃ r, RatIs r N D ∧ e = .returned (.string (fmtRat r.neg r.num r.den)) ∧ Below w.heap.size w w' := by
  obtain ⟨r, p, c, p2, c2, rfl, h1, h2, h3⟩ := hu
  exact (implFormatRat_any r.neg p c r.num p2 c2 r.den w h1 h3.len.1 h2 h3.len.2 ht).mono fun _ _ h => ⟨r, h3, h⟩
variable (hv : RatAt w v M E)
include hv
theorem rat_add (hf : Fit (N * E + M * D) (D * E)) : Calls Tryz.prog 9 #[u, v] w fun e w' => ∃ x, e = .returned x ∧ RatAt w' x (N * E + M * D) (D * E) ∧ Below w.heap.size w w' := by
  obtain ⟨r, p, c, p2, c2, rfl, h1, h2, h3⟩ := hu
  obtain ⟨s, p3, c3, p4, c4, rfl, k1, k2, k3⟩ := hv
  exact (implRatAdd_any r.neg p c r.num p2 c2 r.den s.neg p3 c3 s.num p4 c4 s.den w h1 h3.len.1 h2 h3.len.2 k1 k3.len.1 k2 k3.len.2).mono fun _ _ h => rat_ret h (add_is h3 k3 hf)
theorem rat_sub (hf : Fit (N * E - M * D) (D * E)) : Calls Tryz.prog 8 #[u, v] w fun e w' => ∃ x, e = .returned x ∧ RatAt w' x (N * E - M * D) (D * E) ∧ Below w.heap.size w w' := by
  obtain ⟨r, p, c, p2, c2, rfl, h1, h2, h3⟩ := hu
  obtain ⟨s, p3, c3, p4, c4, rfl, k1, k2, k3⟩ := hv
  exact (implRatSub_any r.neg p c r.num p2 c2 r.den s.neg p3 c3 s.num p4 c4 s.den w h1 h3.len.1 h2 h3.len.2 k1 k3.len.1 k2 k3.len.2).mono fun _ _ h => rat_ret h (sub_is h3 k3 hf)
theorem rat_mul (hf : Fit (N * M) (D * E)) : Calls Tryz.prog 14 #[u, v] w fun e w' => ∃ x, e = .returned x ∧ RatAt w' x (N * M) (D * E) ∧ Below w.heap.size w w' := by
  obtain ⟨r, p, c, p2, c2, rfl, h1, h2, h3⟩ := hu
  obtain ⟨s, p3, c3, p4, c4, rfl, k1, k2, k3⟩ := hv
  exact (implRatMul_any r.neg p c r.num p2 c2 r.den s.neg p3 c3 s.num p4 c4 s.den w h1 h3.len.1 h2 h3.len.2 k1 k3.len.1 k2 k3.len.2).mono fun _ _ h => rat_ret h (mul_is h3 k3 hf)
theorem rat_div (h0 : M ≠ 0) (hf : Fit (N * (E * M.sign)) (D * M.natAbs)) : Calls Tryz.prog 15 #[u, v] w fun e w' => ∃ x, e = .returned x ∧ RatAt w' x (N * (E * M.sign)) (D * M.natAbs) ∧ Below w.heap.size w w' := by
  obtain ⟨r, p, c, p2, c2, rfl, h1, h2, h3⟩ := hu
  obtain ⟨s, p3, c3, p4, c4, rfl, k1, k2, k3⟩ := hv
  exact (implRatDiv_any r.neg p c r.num p2 c2 r.den s.neg p3 c3 s.num p4 c4 s.den w h1 h3.len.1 h2 h3.len.2 k1 k3.len.1 k2 k3.len.2).mono fun _ _ h => rat_ret h (div_is h3 k3 h0 hf)
theorem rat_min : Calls Tryz.prog 12 #[u, v] w fun e w' => ∃ x, e = .returned x ∧ RatAt w' x (if N * E ≤ M * D then N * E else M * D) (D * E) ∧ Below w.heap.size w w' := by
  obtain ⟨r, p, c, p2, c2, rfl, h1, h2, h3⟩ := hu
  obtain ⟨s, p3, c3, p4, c4, rfl, k1, k2, k3⟩ := hv
  exact (implRatMin_any r.neg p c r.num p2 c2 r.den s.neg p3 c3 s.num p4 c4 s.den w h1 h3.len.1 h2 h3.len.2 k1 k3.len.1 k2 k3.len.2).mono fun _ _ h => rat_ret h (min_is h3 k3)
theorem rat_max : Calls Tryz.prog 13 #[u, v] w fun e w' => ∃ x, e = .returned x ∧ RatAt w' x (if M * D ≤ N * E then N * E else M * D) (D * E) ∧ Below w.heap.size w w' := by
  obtain ⟨r, p, c, p2, c2, rfl, h1, h2, h3⟩ := hu
  obtain ⟨s, p3, c3, p4, c4, rfl, k1, k2, k3⟩ := hv
  exact (implRatMax_any r.neg p c r.num p2 c2 r.den s.neg p3 c3 s.num p4 c4 s.den w h1 h3.len.1 h2 h3.len.2 k1 k3.len.1 k2 k3.len.2).mono fun _ _ h => rat_ret h (max_is h3 k3)
theorem rat_cmp {g : Int} (hg : cmpZ (N * E) (M * D) = g) : Calls Tryz.prog 10 #[u, v] w fun e w' => e = .returned (.int .i64 g) ∧ Below w.heap.size w w' := by
  obtain ⟨r, p, c, p2, c2, rfl, h1, h2, h3⟩ := hu
  obtain ⟨s, p3, c3, p4, c4, rfl, k1, k2, k3⟩ := hv
  have h := implRatCmp_any r.neg p c r.num p2 c2 r.den s.neg p3 c3 s.num p4 c4 s.den w h1 h3.len.1 h2 h3.len.2 k1 k3.len.1 k2 k3.len.2
  rw [cmp_is h3 k3, hg] at h
  exact h
theorem rat_same (e : N * E = M * D) : Calls Tryz.prog 7 #[u, v] w fun e w' => e = .returned (.bool true) ∧ Below w.heap.size w w' := by
  obtain ⟨r, p, c, p2, c2, rfl, h1, h2, h3⟩ := hu
  obtain ⟨s, p3, c3, p4, c4, rfl, k1, k2, k3⟩ := hv
  have h := implRatEqual_any r.neg p c r.num p2 c2 r.den s.neg p3 c3 s.num p4 c4 s.den w h1 h3.len.1 h2 h3.len.2 k1 k3.len.1 k2 k3.len.2
  rw [same_is h3 k3 e] at h
  exact h
end
theorem rat_parse {w : World} {r : RA} {N : Int} {D : Nat} (h : RatIs r N D) (hf : Fit N D) (ht : Tab w) (hm : MaxVar w) : Calls Tryz.prog 5 #[.string (fmtRat r.neg r.num r.den)] w fun e w' => ∃ x, e = .returned (.tuple #[x, .bool true]) ∧ RatAt w' x N D ∧ Below w.heap.size w w' := by
  have k := implParseRat_any (fmtRat r.neg r.num r.den) w (Nat.le_trans (fmtRat_size _ _ _) (by decide)) ht hm
  rw [(rat_text h hf).1, (rat_text h hf).2] at k
  exact k.mono fun _ _ ⟨p, c, p2, c2, h1, ⟨m, _, _, h2, h3⟩, h4⟩ => ⟨_, h1, ⟨r, p, c, p2, c2, rfl, h2.ints, h3.ints, h⟩, h4⟩
end
section
section
variable {a c : Int} {b d : Nat} (ha : a.natAbs ≤ 10) (hc : c.natAbs ≤ 10) (hb : 0 < b) (hb3 : b ≤ 3) (hd : 0 < d) (hd3 : d ≤ 3)
include ha hc hb hb3 hd hd3
theorem rats_fit : Fit (a * d + c * b) (b * d) ∧ Fit ((a * d + c * b) * d - c * ((b * d : Nat) : Int)) (b * d * d) ∧ Fit (a * d - c * b) (b * d) ∧
    Fit ((if a * d ≤ c * b then a * d else c * b) * ((b * d : Nat) : Int) + (if c * b ≤ a * d then a * d else c * b) * ((b * d : Nat) : Int)) (b * d * (b * d)) ∧
    ((a * d + c * b) * d - c * ((b * d : Nat) : Int)) * b = a * ((b * d * d : Nat) : Int) ∧
    ((if a * d ≤ c * b then a * d else c * b) * ((b * d : Nat) : Int) + (if c * b ≤ a * d then a * d else c * b) * ((b * d : Nat) : Int)) * ((b * d : Nat) : Int) = (a * d + c * b) * ((b * d * (b * d) : Nat) : Int) := by
  have h1 : b = 1 ∨ b = 2 ∨ b = 3 := by omega
  have h2 : d = 1 ∨ d = 2 ∨ d = 3 := by omega
  unfold Fit
  rcases h1 with rfl | rfl | rfl <;> rcases h2 with rfl | rfl | rfl <;> refine ⟨⟨by omega, by omega, by omega⟩, ⟨by omega, by omega, by omega⟩, ⟨by omega, by omega, by omega⟩, ⟨by split <;> split <;> omega, by omega, by omega⟩, by omega, by split <;> split <;> omega⟩
theorem rats_div (h0 : c ≠ 0) : Fit (a * (d * c.sign)) (b * c.natAbs) ∧ Fit (a * (d * c.sign) * c) (b * c.natAbs * d) := by
  have h3 : (a * (d * c.sign)).natAbs ≤ 30 ∧ 0 < c.natAbs := by
    have e : (d * c.sign : Int).natAbs = d := by
      rcases Int.lt_or_gt_of_ne h0 with h | h
      · rw [Int.sign_eq_neg_one_of_neg h]; omega
      · rw [Int.sign_eq_one_of_pos h]; omega
    rw [Int.natAbs_mul, e]
    exact ⟨Nat.mul_le_mul ha hd3, by omega⟩
  have h4 : b * c.natAbs ≤ 30 := Nat.mul_le_mul hb3 hc
  have h5 : 0 < b * c.natAbs := Nat.mul_pos hb h3.2
  have h6 : b * c.natAbs * d ≤ 30 * 3 := Nat.mul_le_mul h4 hd3
  have h7 : 0 < b * c.natAbs * d := Nat.mul_pos h5 hd
  have h8 : (a * (d * c.sign) * c).natAbs ≤ 30 * 10 := by rw [Int.natAbs_mul]; exact Nat.mul_le_mul h3.1 hc
  exact ⟨⟨by omega, h5, by omega⟩, ⟨by omega, h7, by omega⟩⟩
end
theorem rats_back (a c : Int) (b d : Nat) : a * (d * c.sign) * c * b = a * ((b * c.natAbs * d : Nat) : Int) := by
  have h : c.sign * c = (c.natAbs : Int) := Int.sign_mul_self c
  rw [Int.natCast_mul, Int.natCast_mul, ← h]
  ac_rfl
end
end Go.Proofs.YtehhpkeabckdaaaGreatDoor
