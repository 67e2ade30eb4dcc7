/- Whole numbers of either sign as BigInts: plain. -/
import Derived.Test.YtjklefkkdaelnaaDoorBigMul
import Derived.Test.YtjklefkkdaelnaaDoorBoxes
namespace Go.Proofs.YtjklefkkdaelnaaDoor
set_option linter.unusedVariables false
set_option linter.unusedSimpArgs false
open Go.RowKit

def toI (n : Bool) (xs : List Int) : Int := if n then -((val xs : Nat) : Int) else ((val xs : Nat) : Int)
def ofI (z : Int) : BI := ⟨decide (z < 0), digs z.natAbs⟩
/-- a result of at most 60 digits, else the zero value -/
def capI (z : Int) : BI := if (digs z.natAbs).length ≤ 60 then ofI z else ⟨false, []⟩

theorem digs_len_pos {N : Nat} : 0 < (digs N).length ↔ 0 < N := by
  rw [List.length_pos_iff]
  constructor
  · intro h; rcases Nat.eq_zero_or_pos N with h0 | h0
    · exact absurd (digs_nil_iff.2 h0) h
    · exact h0
  · intro h h0; have := digs_nil_iff.1 h0; omega
theorem mkBI_pos (N : Nat) : mkBI false (digs N) = ofI (N : Int) := by
  unfold mkBI ofI
  simp
theorem mkBI_neg (N : Nat) : mkBI true (digs N) = ofI (-(N : Int)) := by
  unfold mkBI ofI
  have : decide (0 < (digs N).length) = decide (-(N : Int) < 0) := by rw [decide_eq_decide, digs_len_pos]; omega
  simp [this]
theorem mkBI_any (n : Bool) (N : Nat) : mkBI n (digs N) = ofI (if n then -(N : Int) else N) := by
  cases n
  · exact mkBI_pos N
  · exact mkBI_neg N
theorem mkBI_cap (n : Bool) (N : Nat) : mkBI n (capD N) = capI (if n then -(N : Int) else N) := by
  have e : (if n then -(N : Int) else N).natAbs = N := by cases n <;> simp
  unfold capD capI
  rw [e]
  split
  · exact mkBI_any n N
  · unfold mkBI; cases n <;> rfl
theorem ofI_len (z : Int) : (ofI z).mag = digs z.natAbs := rfl
theorem capI_len (z : Int) : (capI z).mag.length ≤ 1048576 := by
  unfold capI
  split
  · show (digs _).length ≤ _; omega
  · simp
theorem toI_mul (n m : Bool) (xs ys : List Int) : toI n xs * toI m ys = if (n != m) then -((val xs * val ys : Nat) : Int) else ((val xs * val ys : Nat) : Int) := by
  unfold toI
  cases n <;> cases m <;> simp [Int.neg_mul, Int.mul_neg]
theorem toI_same (n : Bool) (xs ys : List Int) : toI n xs + toI n ys = if n then -((val xs + val ys : Nat) : Int) else ((val xs + val ys : Nat) : Int) := by
  unfold toI
  cases n <;> simp <;> omega
theorem toI_first {n m : Bool} {xs ys : List Int} (h : n ≠ m) (hle : val ys ≤ val xs) : toI n xs + toI m ys = if n then -((val xs - val ys : Nat) : Int) else ((val xs - val ys : Nat) : Int) := by
  unfold toI
  cases n <;> cases m <;> simp at h ⊢ <;> omega
theorem toI_second {n m : Bool} {xs ys : List Int} (h : n ≠ m) (hle : val xs ≤ val ys) : toI n xs + toI m ys = if m then -((val ys - val xs : Nat) : Int) else ((val ys - val xs : Nat) : Int) := by
  unfold toI
  cases n <;> cases m <;> simp at h ⊢ <;> omega
theorem toI_not (n : Bool) (xs : List Int) : toI (!n) xs = -toI n xs := by unfold toI; cases n <;> simp
theorem ofI_toI {n : Bool} {xs : List Int} (h : bigOkB n xs = true) : ofI (toI n xs) = ⟨n, xs⟩ := by
  have h1 := ok_digs (bigOk_nat h)
  unfold ofI toI
  cases n
  · simp [h1]
  · have h2 : 0 < xs.length := by unfold bigOkB at h; simp at h; omega
    have h3 : 0 < val xs := by rw [← h1, digs_len_pos] at h2; exact h2
    simp [h1]; omega
theorem toI_ofI (z : Int) : toI (ofI z).neg (ofI z).mag = z := by
  unfold ofI toI
  simp only [val_digs, decide_eq_true_eq]
  split <;> omega
theorem ofI_ok {z : Int} (h : (digs z.natAbs).length ≤ 60) : bigOkB (ofI z).neg (ofI z).mag = true := by
  unfold bigOkB ofI
  simp only [Bool.and_eq_true, Bool.or_eq_true, Bool.not_eq_true', decide_eq_false_iff_not, decide_eq_true_eq, digs_len_pos]
  exact ⟨digs_ok h, by omega⟩
theorem capI_ok (z : Int) : bigOkB (capI z).neg (capI z).mag = true := by
  unfold capI
  split
  · exact ofI_ok ‹_›
  · rfl
theorem bigNeg_toI {n : Bool} {xs : List Int} (h : bigOkB n xs = true) : bigNeg n xs = ofI (-toI n xs) := by
  rw [bigNeg_ok h, ← ok_digs (bigOk_nat h), mkBI_any, ok_digs (bigOk_nat h), ← toI_not]
  unfold toI
  cases n <;> rfl

def bigMulI (n : Bool) (xs : List Int) (m : Bool) (ys : List Int) : BI := if bigOkB n xs && bigOkB m ys then capI (toI n xs * toI m ys) else ⟨false, []⟩
def bigAddI (n : Bool) (xs : List Int) (m : Bool) (ys : List Int) : BI := if bigOkB n xs && bigOkB m ys then capI (toI n xs + toI m ys) else ⟨false, []⟩
def bigSubI (n : Bool) (xs : List Int) (m : Bool) (ys : List Int) : BI := if bigOkB n xs && bigOkB m ys then capI (toI n xs - toI m ys) else ⟨false, []⟩
section
variable {n m : Bool} {xs ys : List Int}
theorem bigMulI_yes (h : bigOkB n xs = true) (h2 : bigOkB m ys = true) : bigMulI n xs m ys = capI (toI n xs * toI m ys) := by unfold bigMulI; rw [h, h2]; rfl
theorem bigMulI_no1 (h : bigOkB n xs = false) : bigMulI n xs m ys = ⟨false, []⟩ := by unfold bigMulI; rw [h]; rfl
theorem bigMulI_no2 (h : bigOkB m ys = false) : bigMulI n xs m ys = ⟨false, []⟩ := by unfold bigMulI; rw [h]; simp
theorem bigAddI_yes (h : bigOkB n xs = true) (h2 : bigOkB m ys = true) : bigAddI n xs m ys = capI (toI n xs + toI m ys) := by unfold bigAddI; rw [h, h2]; rfl
theorem bigAddI_no1 (h : bigOkB n xs = false) : bigAddI n xs m ys = ⟨false, []⟩ := by unfold bigAddI; rw [h]; rfl
theorem bigAddI_no2 (h : bigOkB m ys = false) : bigAddI n xs m ys = ⟨false, []⟩ := by unfold bigAddI; rw [h]; simp
theorem bigSubI_yes (h : bigOkB n xs = true) (h2 : bigOkB m ys = true) : bigSubI n xs m ys = capI (toI n xs - toI m ys) := by unfold bigSubI; rw [h, h2]; rfl
theorem bigSubI_no1 (h : bigOkB n xs = false) : bigSubI n xs m ys = ⟨false, []⟩ := by unfold bigSubI; rw [h]; rfl
theorem bigSubI_no2 (h : bigOkB m ys = false) : bigSubI n xs m ys = ⟨false, []⟩ := by unfold bigSubI; rw [h]; simp
end
theorem bigMulI_len (n : Bool) (xs : List Int) (m : Bool) (ys : List Int) : (bigMulI n xs m ys).mag.length ≤ 1048576 := by
  unfold bigMulI; split
  · exact capI_len _
  · simp
theorem bigAddI_len (n : Bool) (xs : List Int) (m : Bool) (ys : List Int) : (bigAddI n xs m ys).mag.length ≤ 1048576 := by
  unfold bigAddI; split
  · exact capI_len _
  · simp
theorem bigSubI_len (n : Bool) (xs : List Int) (m : Bool) (ys : List Int) : (bigSubI n xs m ys).mag.length ≤ 1048576 := by
  unfold bigSubI; split
  · exact capI_len _
  · simp

theorem bigMulB_of (n : Bool) (xs : List Int) (m : Bool) (ys : List Int) : bigMulB n xs m ys = ofI (toI n xs * toI m ys) := by unfold bigMulB; rw [mkBI_any, toI_mul]
/-- a big number's result stored into a box at block R -/
theorem big_endR {w w2 : World} {p : Option Addr} {c lo hi R : Nat} {xs : List Int} (hR : w.heap.size ≤ R) (hlo : R < lo) (ho : OwnI w2 lo hi (.slice p xs.length c) xs) (hh : hi ≤ w2.heap.size) (b : Below w.heap.size w w2) (u1 u2 : Value) :
    OwnI ((w2.setCell ⟨R, 0, none⟩ u1).setCell ⟨R, 1, none⟩ u2) w.heap.size ((w2.setCell ⟨R, 0, none⟩ u1).setCell ⟨R, 1, none⟩ u2).heap.size (.slice p xs.length c) xs ∧
      Below w.heap.size w ((w2.setCell ⟨R, 0, none⟩ u1).setCell ⟨R, 1, none⟩ u2) :=
  ⟨((ho.low hlo _).low hlo _).mono (by omega) (by simpa using hh), (b.setCell hR _).setCell hR _⟩
theorem zero_endR {w w2 : World} {R : Nat} (hR : w.heap.size ≤ R) (b : Below w.heap.size w w2) (u1 u2 : Value) :
    OwnI ((w2.setCell ⟨R, 0, none⟩ u1).setCell ⟨R, 1, none⟩ u2) w.heap.size ((w2.setCell ⟨R, 0, none⟩ u1).setCell ⟨R, 1, none⟩ u2).heap.size (.slice none 0 0) [] ∧
      Below w.heap.size w ((w2.setCell ⟨R, 0, none⟩ u1).setCell ⟨R, 1, none⟩ u2) :=
  ⟨(own_nil _ _).toI, (b.setCell hR _).setCell hR _⟩

/-- 'ifBigInt' of a number -/
theorem ifBigInt_any (z : Int) (p : Option Addr) (c : Nat) (w : World) :
    Calls Tryd.prog 87 #[.agg #[.bool (ofI z).neg, .slice p (ofI z).mag.length c]] w fun e w' => ∃ p' c', e = .returned (.agg #[.bool (capI z).neg, .slice p' (capI z).mag.length c']) ∧
      (∀ (W : World) (lo hi : Nat), OwnI W lo hi (.slice p (ofI z).mag.length c) (ofI z).mag → OwnI W lo hi (.slice p' (capI z).mag.length c') (capI z).mag) ∧ Below w.heap.size w w' := by
  by_cases h : (ofI z).mag.length ≤ 60
  · have e : capI z = ofI z := if_pos h
    rw [e]
    exact (ifBigInt_yes _ p _ c w h).mono fun _ _ ⟨h1, h2⟩ => ⟨p, c, h1, fun _ _ _ h => h, h2⟩
  · have e : capI z = ⟨false, []⟩ := if_neg h
    rw [e]
    refine (ifBigInt_no _ p _ c w (by omega)).mono fun _ _ ⟨h1, h2⟩ => ⟨none, 0, h1, fun W lo hi _ => ⟨own_nil W lo, fun k hk => by cases hk⟩, h2⟩
section
variable (n : Bool) (a : Option Addr) (ca : Nat) (xs : List Int) (m : Bool) (b : Option Addr) (cb : Nat) (ys : List Int) (w : World) (ha : IntsAt w a ca xs) (hn : xs.length ≤ 500000) (hb : IntsAt w b cb ys) (hm : ys.length ≤ 500000) (hx : Rng xs) (hy : Rng ys)
include ha hn hb hm hx hy
theorem bigMul_int : Calls Tryd.prog 91 #[.agg #[.bool n, .slice a xs.length ca], .agg #[.bool m, .slice b ys.length cb]] w fun e w' => ∃ p c', e = .returned (.agg #[.bool (ofI (toI n xs * toI m ys)).neg, .slice p (ofI (toI n xs * toI m ys)).mag.length c']) ∧
    OwnI w' w.heap.size w'.heap.size (.slice p (ofI (toI n xs * toI m ys)).mag.length c') (ofI (toI n xs * toI m ys)).mag ∧ Below w.heap.size w w' := by
  rw [← bigMulB_of]
  exact bigMul_any n a ca xs m b cb ys w ha hn hb hm hx hy
end
end Go.Proofs.YtjklefkkdaelnaaDoor
