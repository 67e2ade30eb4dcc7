/- Fractions: plain, for the program's ways. -/
import Derived.Test.YtehhpkeabckdaaaGreatDoorRatLaw
import Derived.Test.YtehhpkeabckdaaaGreatDoorRatSmall
import Derived.Test.YtehhpkeabckdaaaGreatDoorK4
namespace Go.Proofs.YtehhpkeabckdaaaGreatDoor
set_option linter.unusedVariables false
set_option linter.unusedSimpArgs false

theorem mkRA_neg (n : Bool) (N D : Nat) : mkRA n N D = mkRAz (if n then -(N : Int) else N) D := by
  have e : (if n then -(N : Int) else N).natAbs = N := by cases n <;> simp
  have e2 : (mkBI n (digs (N / Nat.gcd N D))).neg = (mkBI (decide ((if n then -(N : Int) else N) < 0)) (digs (N / Nat.gcd N D))).neg := by
    rcases Nat.eq_zero_or_pos N with h | h
    · subst h
      have : digs (0 / Nat.gcd 0 D) = [] := by rw [Nat.zero_div, digs_zero]
      rw [this]; simp [mkBI]
    · cases n
      · have : decide ((if false = true then -(N : Int) else N) < 0) = false := decide_eq_false (by simp)
        rw [this]
      · have : decide ((if true = true then -(N : Int) else N) < 0) = true := decide_eq_true (by simp; omega)
        rw [this]
  unfold mkRAz mkRA
  rw [e, e2]
/-- 'reduced' leaves a proper sign as it is -/
theorem red_neg {n : Bool} {N D : Nat} (hD : 0 < D) (h : n = true → 0 < N) : (mkBI n (digs (N / Nat.gcd N D))).neg = n := by
  cases n
  · rfl
  · have hg : 0 < Nat.gcd N D := Nat.gcd_pos_of_pos_right _ hD
    have := Nat.div_pos (Nat.le_of_dvd (h rfl) (Nat.gcd_dvd_left N D)) hg
    show (true && decide (0 < _)) = true
    rw [decide_eq_true (digs_len_pos.2 this)]; rfl
theorem tdiv_neg {n : Int} {g : Nat} (hg : 0 < g) (hd : g ∣ n.natAbs) : decide (n.tdiv g < 0) = decide (n < 0) := by
  rw [decide_eq_decide]
  constructor
  · intro h
    rcases Int.lt_or_le n 0 with h1 | h1
    · exact h1
    · have := Int.tdiv_nonneg h1 (Int.natCast_nonneg g); omega
  · intro h
    obtain ⟨k, rfl⟩ : ∃ k : Nat, n = -(k : Int) := ⟨n.natAbs, by omega⟩
    rw [Int.neg_tdiv, Int.tdiv_eq_ediv_of_nonneg (Int.natCast_nonneg k)]
    have e : ((-(k : Int)).natAbs) = k := by simp
    rw [e] at hd
    have := Nat.div_pos (Nat.le_of_dvd (by omega) hd) hg
    have e2 : (k : Int) / (g : Int) = ((k / g : Nat) : Int) := by simp
    rw [e2]; omega
/-- what 'ofInts' makes -/
theorem ofInts_law {n d : Int} {g : Nat} (hd : 0 < d) (h1 : n.natAbs ≤ 9223372036854775807) (h2 : d ≤ 9223372036854775807) (hg : g = Nat.gcd n.natAbs d.toNat) :
    mkRAz n d.toNat = ⟨(bigOf (n.tdiv g)).neg, (bigOf (n.tdiv g)).mag, digs (d / g).toNat⟩ := by
  have hD : d.toNat ≠ 0 := by omega
  have hg0 : 0 < g := by rw [hg]; exact Nat.gcd_pos_of_pos_right _ (by omega)
  have e1 : (n.tdiv g).natAbs = n.natAbs / g := by rw [Int.natAbs_tdiv]; rfl
  have e2 : (d / g).toNat = d.toNat / g := by
    obtain ⟨k, rfl⟩ : ∃ k : Nat, d = (k : Int) := ⟨d.toNat, by omega⟩
    have : (k : Int) / (g : Int) = ((k / g : Nat) : Int) := by simp
    rw [this, Int.toNat_natCast, Int.toNat_natCast]
  have l1 : (digs (n.natAbs / g)).length ≤ 3 := digs_len_le (Nat.lt_of_le_of_lt (Nat.div_le_self _ _) (by unfold pw; omega))
  have l2 : (digs (d.toNat / g)).length ≤ 3 := digs_len_le (Nat.lt_of_le_of_lt (Nat.div_le_self _ _) (by unfold pw; omega))
  unfold mkRAz
  rw [mkRA_fit hD (by rw [← hg]; omega) (by rw [← hg]; omega), ← hg, e2]
  unfold bigOf
  rw [e1, tdiv_neg hg0 (by rw [hg]; exact Nat.gcd_dvd_left _ _)]
  rfl

def signZ (n : Int) : Int := if n < 0 then -1 else if 0 < n then 1 else 0
theorem signZ_sub (a b : Int) : signZ (a - b) = cmpZ a b := by
  unfold signZ cmpZ
  by_cases h1 : a < b
  · rw [if_pos (by omega), if_pos h1]
  · rw [if_neg (by omega), if_neg h1]
    by_cases h2 : b < a
    · rw [if_pos (by omega), if_pos h2]
    · rw [if_neg (by omega), if_neg h2]
theorem bigCmpL_ofI (a b : Int) : bigCmpL (ofI a).neg (ofI a).mag (ofI b).neg (ofI b).mag = cmpZ a b := by
  unfold bigCmpL ofI cmpZ
  simp only [cmpL_digs]
  unfold cmpN
  by_cases h1 : a < 0
  · by_cases h2 : b < 0
    · simp only [h1, h2, decide_true, if_true]
      by_cases h3 : a < b
      · rw [if_pos h3, if_pos (by omega)]
      · rw [if_neg h3, if_neg (by omega)]
        by_cases h4 : b < a
        · rw [if_pos h4, if_pos (by omega)]
        · rw [if_neg h4, if_neg (by omega)]
    · simp only [h1, h2, decide_true, decide_false, if_true, Bool.false_eq_true, if_false]
      rw [if_pos (by omega)]
  · by_cases h2 : b < 0
    · simp only [h1, h2, decide_true, decide_false, if_true, Bool.false_eq_true, if_false]
      rw [if_neg (by omega), if_pos (by omega)]
    · simp only [h1, h2, decide_false, Bool.false_eq_true, if_false]
      by_cases h3 : a < b
      · rw [if_pos h3, if_pos (by omega)]
      · rw [if_neg h3, if_neg (by omega)]
        by_cases h4 : b < a
        · rw [if_pos h4, if_pos (by omega)]
        · rw [if_neg h4, if_neg (by omega)]

theorem ofI_neg_pos (z : Int) : (ofI z).neg = true → 0 < z.natAbs := by unfold ofI; simp; omega
theorem mkBI_neg_pos (n : Bool) (xs : List Int) (h : digs (val xs) = xs) : (mkBI n xs).neg = true → 0 < val xs := by
  unfold mkBI
  simp only [Bool.and_eq_true, decide_eq_true_eq, and_imp]
  intro _ h2
  rw [← h, digs_len_pos] at h2; exact h2
theorem bigOk_neg_pos {n : Bool} {xs : List Int} (h : bigOkB n xs = true) : n = true → 0 < val xs := by
  intro hn
  have h1 := ok_digs (bigOk_nat h)
  unfold bigOkB at h
  subst hn
  simp at h
  rw [← digs_len_pos, h1]; omega
/-- a small fraction's parts -/
theorem small_parts {xs ds : List Int} (h : smallB xs ds = true) : xs.length ≤ 1 ∧ ds.length = 1 := by unfold smallB at h; simpa using h
theorem val_le_one {xs : List Int} (hr : Rng xs) (h : xs.length ≤ 1) : val xs ≤ 999999999 := by
  have := val_lt hr
  have h2 := pw_mono h
  have h3 : pw 1 = 1000000000 := by decide
  omega
theorem toI_natAbs (n : Bool) (xs : List Int) : (toI n xs).natAbs = val xs := by unfold toI; cases n <;> simp

section
variable {n m : Bool} {xs ds ys es : List Int}
theorem digs_mul_len {k l : Nat} (hx : Rng xs) (hy : Rng ys) (h1 : xs.length ≤ k) (h2 : ys.length ≤ l) : (digs (val xs * val ys)).length ≤ k + l := by
  apply digs_len_le
  rw [pw_add]
  have a := Nat.lt_of_lt_of_le (val_lt hx) (pw_mono h1)
  have b := Nat.lt_of_lt_of_le (val_lt hy) (pw_mono h2)
  exact Nat.mul_lt_mul_of_lt_of_le a (Nat.le_of_lt b) (pw_pos _)
theorem ratAddP_yes (h : ratOkB n xs ds = true) (h2 : ratOkB m ys es = true) : ratAddP n xs ds m ys es = mkRAz (toI n xs * (val es : Nat) + toI m ys * (val ds : Nat)) (val ds * val es) := by unfold ratAddP; rw [h, h2]; rfl
theorem ratAddP_no1 (h : ratOkB n xs ds = false) : ratAddP n xs ds m ys es = zeroRA := by unfold ratAddP; rw [h]; rfl
theorem ratAddP_no2 (h : ratOkB m ys es = false) : ratAddP n xs ds m ys es = zeroRA := by unfold ratAddP; rw [h]; simp
theorem ratSubP_yes (h : ratOkB n xs ds = true) (h2 : ratOkB m ys es = true) : ratSubP n xs ds m ys es = mkRAz (toI n xs * (val es : Nat) - toI m ys * (val ds : Nat)) (val ds * val es) := by unfold ratSubP; rw [h, h2]; rfl
theorem ratSubP_no1 (h : ratOkB n xs ds = false) : ratSubP n xs ds m ys es = zeroRA := by unfold ratSubP; rw [h]; rfl
theorem ratSubP_no2 (h : ratOkB m ys es = false) : ratSubP n xs ds m ys es = zeroRA := by unfold ratSubP; rw [h]; simp
theorem ratMulP_yes (h : ratOkB n xs ds = true) (h2 : ratOkB m ys es = true) : ratMulP n xs ds m ys es = mkRA (n != m) (val xs * val ys) (val ds * val es) := by unfold ratMulP; rw [h, h2]; rfl
theorem ratMulP_no1 (h : ratOkB n xs ds = false) : ratMulP n xs ds m ys es = zeroRA := by unfold ratMulP; rw [h]; rfl
theorem ratMulP_no2 (h : ratOkB m ys es = false) : ratMulP n xs ds m ys es = zeroRA := by unfold ratMulP; rw [h]; simp
theorem ratDivP_yes (h : ratOkB n xs ds = true) (h2 : ratOkB m ys es = true) : ratDivP n xs ds m ys es = mkRA (n != m) (val xs * val es) (val ds * val ys) := by unfold ratDivP; rw [h, h2]; rfl
theorem ratDivP_no1 (h : ratOkB n xs ds = false) : ratDivP n xs ds m ys es = zeroRA := by unfold ratDivP; rw [h]; rfl
theorem ratDivP_no2 (h : ratOkB m ys es = false) : ratDivP n xs ds m ys es = zeroRA := by unfold ratDivP; rw [h]; simp
theorem ratCmpP_yes (h : ratOkB n xs ds = true) (h2 : ratOkB m ys es = true) : ratCmpP n xs ds m ys es = ratCmpV n xs ds m ys es := by unfold ratCmpP; rw [h, h2]; rfl
theorem ratCmpP_no1 (h : ratOkB n xs ds = false) : ratCmpP n xs ds m ys es = 0 := by unfold ratCmpP; rw [h]; rfl
theorem ratCmpP_no2 (h : ratOkB m ys es = false) : ratCmpP n xs ds m ys es = 0 := by unfold ratCmpP; rw [h]; simp
theorem ratMinP_le (h : ratOkB n xs ds = true) (h2 : ratOkB m ys es = true) (h3 : ratCmpV n xs ds m ys es ≤ 0) : ratMinP n xs ds m ys es = ⟨n, xs, ds⟩ := by unfold ratMinP; rw [h, h2, if_pos h3]; rfl
theorem ratMinP_gt (h : ratOkB n xs ds = true) (h2 : ratOkB m ys es = true) (h3 : ¬ ratCmpV n xs ds m ys es ≤ 0) : ratMinP n xs ds m ys es = ⟨m, ys, es⟩ := by unfold ratMinP; rw [h, h2, if_neg h3]; rfl
theorem ratMinP_no1 (h : ratOkB n xs ds = false) : ratMinP n xs ds m ys es = zeroRA := by unfold ratMinP; rw [h]; rfl
theorem ratMinP_no2 (h : ratOkB m ys es = false) : ratMinP n xs ds m ys es = zeroRA := by unfold ratMinP; rw [h]; simp
theorem ratMaxP_le (h : ratOkB n xs ds = true) (h2 : ratOkB m ys es = true) (h3 : 0 ≤ ratCmpV n xs ds m ys es) : ratMaxP n xs ds m ys es = ⟨n, xs, ds⟩ := by unfold ratMaxP; rw [h, h2, if_pos h3]; rfl
theorem ratMaxP_gt (h : ratOkB n xs ds = true) (h2 : ratOkB m ys es = true) (h3 : ¬ 0 ≤ ratCmpV n xs ds m ys es) : ratMaxP n xs ds m ys es = ⟨m, ys, es⟩ := by unfold ratMaxP; rw [h, h2, if_neg h3]; rfl
theorem ratMaxP_no1 (h : ratOkB n xs ds = false) : ratMaxP n xs ds m ys es = zeroRA := by unfold ratMaxP; rw [h]; rfl
theorem ratMaxP_no2 (h : ratOkB m ys es = false) : ratMaxP n xs ds m ys es = zeroRA := by unfold ratMaxP; rw [h]; simp
theorem ratNegP_yes (h : ratOkB n xs ds = true) : ratNegP n xs ds = ⟨(mkBI (!n) xs).neg, xs, ds⟩ := by unfold ratNegP; rw [h]; rfl
theorem ratNegP_no (h : ratOkB n xs ds = false) : ratNegP n xs ds = zeroRA := by unfold ratNegP; rw [h]; rfl
/-- the negative of a valid fraction is valid -/
theorem ratOk_neg (h : ratOkB n xs ds = true) : ratOkB (mkBI (!n) xs).neg xs ds = true := by
  have p := ratOk_parts h
  have e : bigOkB (mkBI (!n) xs).neg xs = true := by
    have h1 := bigOk_nat p.1
    unfold bigOkB mkBI
    rw [h1]; cases n <;> simp
  unfold ratOkB
  simp only [e, p.2.1, decide_eq_true p.2.2.1, decide_eq_true p.2.2.2.1, decide_eq_true p.2.2.2.2.1, decide_eq_true p.2.2.2.2.2, Bool.and_self]
theorem toI_mkneg (h : ratOkB n xs ds = true) : toI (mkBI (!n) xs).neg xs = -toI n xs := by
  have h1 := ratOk_num h
  by_cases h0 : 0 < xs.length
  · have : (mkBI (!n) xs).neg = !n := by unfold mkBI; simp [h0]
    rw [this, toI_not]
  · have : val xs = 0 := by
      have : xs = [] := List.eq_nil_of_length_eq_zero (by omega)
      subst this; rfl
    unfold toI; rw [this]; simp
/-- subtracting is adding the negative -/
theorem ratSub_neg (h : ratOkB n xs ds = true) (h2 : ratOkB m ys es = true) : ratSubP n xs ds m ys es = ratAddP n xs ds (mkBI (!m) ys).neg ys es := by
  rw [ratSubP_yes h h2, ratAddP_yes h (ratOk_neg h2), toI_mkneg h2, Int.neg_mul, Int.sub_eq_add_neg]
/-- the inverse of a valid fraction that is not 0 is valid -/
theorem ratOk_inv (h : ratOkB m ys es = true) (h0 : 0 < ys.length) : ratOkB m es ys = true := by
  have p := ratOk_parts h
  have e : bigOkB m es = true := by
    unfold bigOkB
    rw [p.2.1]; simp; exact .inr p.2.2.1
  unfold ratOkB
  simp only [e, bigOk_nat p.1, decide_eq_true h0, decide_eq_true p.2.2.2.1, decide_eq_true p.2.2.2.2.1, Nat.gcd_comm (val es), decide_eq_true p.2.2.2.2.2, Bool.and_self]
theorem ratDiv_inv (h : ratOkB n xs ds = true) (h2 : ratOkB m ys es = true) (h0 : 0 < ys.length) : ratDivP n xs ds m ys es = ratMulP n xs ds m es ys := by
  rw [ratDivP_yes h h2, ratMulP_yes h (ratOk_inv h2 h0)]
theorem ratDiv_zero (h0 : ys = []) : ratDivP n xs ds m ys es = zeroRA := by
  subst h0
  unfold ratDivP
  split
  · rw [show val ([] : List Int) = 0 from rfl, Nat.mul_zero]; exact mkRA_zero _ _
  · rfl
end
def okRA (r : RA) : Bool := ratOkB r.neg r.num r.den
/-- the zero value or valid -/
def RaOr (r : RA) : Prop := r = zeroRA ∨ okRA r = true
theorem raOr_zero : RaOr zeroRA := .inl rfl
theorem raOr_mk (n : Bool) (N D : Nat) : RaOr (mkRA n N D) := mkRA_or n N D
theorem okRA_zero : okRA zeroRA = false := by decide
theorem RaOr.den {r : RA} (h : RaOr r) : decide (0 < r.den.length) = okRA r := by
  rcases h with h | h
  · rw [h, okRA_zero]; rfl
  · rw [h]; exact decide_eq_true (ratOk_parts h).2.2.1
theorem RaOr.len {r : RA} (h : RaOr r) : r.num.length ≤ 1048576 ∧ r.den.length ≤ 1048576 := by
  rcases h with h | h
  · rw [h]; exact zeroRA_len
  · have p := ratOk_parts h; omega
section
variable (n : Bool) (xs ds : List Int) (m : Bool) (ys es : List Int)
theorem raOr_add : RaOr (ratAddP n xs ds m ys es) := by unfold ratAddP; split; exact raOr_mk _ _ _; exact raOr_zero
theorem raOr_sub : RaOr (ratSubP n xs ds m ys es) := by unfold ratSubP; split; exact raOr_mk _ _ _; exact raOr_zero
theorem raOr_mul : RaOr (ratMulP n xs ds m ys es) := by unfold ratMulP; split; exact raOr_mk _ _ _; exact raOr_zero
theorem raOr_div : RaOr (ratDivP n xs ds m ys es) := by unfold ratDivP; split; exact raOr_mk _ _ _; exact raOr_zero
theorem raOr_make : RaOr (ratMakeP n xs m ys) := by unfold ratMakeP; split; exact raOr_mk _ _ _; exact raOr_zero
theorem raOr_of (a b : Int) : RaOr (ratOfP a b) := raOr_mk _ _ _
theorem raOr_neg : RaOr (ratNegP n xs ds) := by
  unfold ratNegP; split
  · right; exact ratOk_neg ‹_›
  · exact raOr_zero
theorem raOr_min : RaOr (ratMinP n xs ds m ys es) := by
  unfold ratMinP
  split
  · rename_i h; simp only [Bool.and_eq_true] at h
    split
    · right; exact h.1
    · right; exact h.2
  · exact raOr_zero
theorem raOr_max : RaOr (ratMaxP n xs ds m ys es) := by
  unfold ratMaxP
  split
  · rename_i h; simp only [Bool.and_eq_true] at h
    split
    · right; exact h.1
    · right; exact h.2
  · exact raOr_zero
end
structure PT where
  x : RA
  y : RA
def zeroPT : PT := ⟨zeroRA, zeroRA⟩
/-- a computed point, if it is valid -/
def validPT (p q : RA) : PT := if okRA p && okRA q then ⟨p, q⟩ else zeroPT
theorem validPT_yes {p q : RA} (h : okRA p = true) (h2 : okRA q = true) : validPT p q = ⟨p, q⟩ := by unfold validPT; rw [h, h2]; rfl
theorem validPT_no1 {p q : RA} (h : okRA p = false) : validPT p q = zeroPT := by unfold validPT; rw [h]; rfl
theorem validPT_no2 {p q : RA} (h : okRA q = false) : validPT p q = zeroPT := by unfold validPT; rw [h]; simp
def PtOr (p : PT) : Prop := RaOr p.x ∧ RaOr p.y
theorem ptOr_valid {p q : RA} (h : RaOr p) (h2 : RaOr q) : PtOr (validPT p q) := by
  unfold validPT; split
  · exact ⟨h, h2⟩
  · exact ⟨raOr_zero, raOr_zero⟩
def addRA (r s : RA) : RA := ratAddP r.neg r.num r.den s.neg s.num s.den
def subRA (r s : RA) : RA := ratSubP r.neg r.num r.den s.neg s.num s.den
def mulRA (r s : RA) : RA := ratMulP r.neg r.num r.den s.neg s.num s.den
def addPT (p q : PT) : PT := validPT (addRA p.x q.x) (addRA p.y q.y)
def subPT (p q : PT) : PT := validPT (subRA p.x q.x) (subRA p.y q.y)
def scalePT (r : RA) (p : PT) : PT := validPT (mulRA r p.x) (mulRA r p.y)
def innerPT (p q : PT) : RA := addRA (mulRA p.x q.x) (mulRA p.y q.y)
def crossPT (p q : PT) : RA := subRA (mulRA p.x q.y) (mulRA p.y q.x)
def areaPT (a b c : PT) : RA := crossPT (subPT b a) (subPT c a)
def middlePT (p q : PT) : PT := scalePT (ratOfP 1 2) (addPT p q)
theorem PtOr.len {p : PT} (h : PtOr p) : p.x.num.length ≤ 1048576 ∧ p.x.den.length ≤ 1048576 ∧ p.y.num.length ≤ 1048576 ∧ p.y.den.length ≤ 1048576 := ⟨h.1.len.1, h.1.len.2, h.2.len.1, h.2.len.2⟩
theorem ptOr_add (p q : PT) : PtOr (addPT p q) := ptOr_valid (raOr_add _ _ _ _ _ _) (raOr_add _ _ _ _ _ _)
theorem ptOr_sub (p q : PT) : PtOr (subPT p q) := ptOr_valid (raOr_sub _ _ _ _ _ _) (raOr_sub _ _ _ _ _ _)
theorem ptOr_scale (r : RA) (p : PT) : PtOr (scalePT r p) := ptOr_valid (raOr_mul _ _ _ _ _ _) (raOr_mul _ _ _ _ _ _)
theorem ptOr_middle (p q : PT) : PtOr (middlePT p q) := ptOr_scale _ _
theorem raOr_inner (p q : PT) : RaOr (innerPT p q) := raOr_add _ _ _ _ _ _
theorem raOr_cross (p q : PT) : RaOr (crossPT p q) := raOr_sub _ _ _ _ _ _
theorem raOr_area (a b c : PT) : RaOr (areaPT a b c) := raOr_cross _ _
/-- a fraction of an int and a small positive int is valid -/
theorem ratOf_ok {a b : Int} (ha : In64 a) (hb : 0 < b) (hb2 : b ≤ 9223372036854775807) : okRA (ratOfP a b) = true := by
  rcases raOr_of a b with h | h
  · exfalso
    have h1 : (ratOfP a b).den = [] := by rw [h]; rfl
    have hD : b.natAbs ≠ 0 := by omega
    have hg : 0 < Nat.gcd a.natAbs b.natAbs := Nat.gcd_pos_of_pos_right _ (by omega)
    have l1 : (digs (a.natAbs / Nat.gcd a.natAbs b.natAbs)).length ≤ 3 := digs_len_le (Nat.lt_of_le_of_lt (Nat.div_le_self _ _) (by unfold In64 at ha; unfold pw; omega))
    have l2 : (digs (b.natAbs / Nat.gcd a.natAbs b.natAbs)).length ≤ 3 := digs_len_le (Nat.lt_of_le_of_lt (Nat.div_le_self _ _) (by unfold pw; omega))
    unfold ratOfP at h1
    rw [mkRA_fit hD (by omega) (by omega)] at h1
    have h3 := digs_nil_iff.1 h1
    have := Nat.div_pos (Nat.le_of_dvd (by omega) (Nat.gcd_dvd_right a.natAbs b.natAbs)) hg
    omega
  · exact h
/-- 'RatFromInt' -/
def ratIntP (a : Int) : RA := ⟨(bigOf a).neg, (bigOf a).mag, [1]⟩
theorem ratInt_of (a : Int) (ha : In64 a) : ratOfP a 1 = ratIntP a := by
  have e1 : decide ((1 : Int) < 0) = false := by decide
  have e2 : (decide (a < 0) != false) = decide (a < 0) := by cases decide (a < 0) <;> rfl
  have e3 : digs 1 = [1] := by
    have e : val [1] = 1 := by simp [val]
    rw [← e]; exact ok_digs (by decide)
  have e4 : (1 : Int).natAbs = 1 := rfl
  unfold ratOfP
  rw [e1, e2, e4, mkRA_fit (by decide) (by rw [Nat.gcd_one_right, Nat.div_one]; have := digs3 ha; omega) (by rw [Nat.gcd_one_right, Nat.div_one, e3]; decide), Nat.gcd_one_right, Nat.div_one, Nat.div_one, e3]
  rfl
end Go.Proofs.YtehhpkeabckdaaaGreatDoor
