/- The operations on whole numbers, told by the numbers. -/
import Derived.Test.YtjklefkkdaelnaaDoorBigsW
namespace Go.Proofs.YtjklefkkdaelnaaDoor
set_option linter.unusedVariables false
set_option linter.unusedSimpArgs false
open Go.RowKit
/-- a number of at most k digits -/
def Sm (z : Int) (k : Nat) : Prop := (digs z.natAbs).length ≤ k
theorem Sm.up {z : Int} {k l : Nat} (h : Sm z k) (hk : k ≤ l) : Sm z l := Nat.le_trans h hk
theorem Sm.add {x y : Int} {k : Nat} (hx : Sm x k) (hy : Sm y k) : Sm (x + y) (k + 1) := by
  have a1 := digs_lt_pw hx
  have a2 := digs_lt_pw hy
  refine digs_len_le ?_
  rw [pw_succ]
  omega
theorem Sm.mul {x y : Int} {k l : Nat} (hx : Sm x k) (hy : Sm y l) : Sm (x * y) (k + l) := by
  have a1 := digs_lt_pw hx
  have a2 := digs_lt_pw hy
  refine digs_len_le ?_
  rw [pw_add, Int.natAbs_mul]
  exact Nat.mul_lt_mul_of_lt_of_le a1 (Nat.le_of_lt a2) (pw_pos _)
theorem Sm.cap {z : Int} (h : Sm z 60) : capI z = ofI z := if_pos h
section
variable {w : World} {u v : Value} {x y : Int} (hu : BigAt w u x) (hv : BigAt w v y) (hx : Sm x 60) (hy : Sm y 60)
include hu hv hx hy
theorem big_mul (hz : Sm (x * y) 60) : Calls Tryd.prog 47 #[u, v] w fun e w' => ∃ r, e = .returned r ∧ BigAt w' r (x * y) ∧ Below w.heap.size w w' := by
  obtain ⟨p, c, rfl, h1⟩ := hu
  obtain ⟨p2, c2, rfl, h2⟩ := hv
  have e : bigMulI (ofI x).neg (ofI x).mag (ofI y).neg (ofI y).mag = ofI (x * y) := by
    rw [bigMulI_yes (ofI_ok hx) (ofI_ok hy), toI_ofI, toI_ofI, hz.cap]
  have h := implBigIntMul_any (ofI x).neg p c (ofI x).mag (ofI y).neg p2 c2 (ofI y).mag w h1 (Nat.le_trans hx (by decide)) h2 (Nat.le_trans hy (by decide))
  rw [e] at h
  exact h.mono fun _ _ ⟨p3, c3, h3, h4, h5⟩ => ⟨_, h3, ⟨p3, c3, rfl, h4.ints⟩, h5⟩
theorem big_add (hz : Sm (x + y) 60) : Calls Tryd.prog 44 #[u, v] w fun e w' => ∃ r, e = .returned r ∧ BigAt w' r (x + y) ∧ Below w.heap.size w w' := by
  obtain ⟨p, c, rfl, h1⟩ := hu
  obtain ⟨p2, c2, rfl, h2⟩ := hv
  have e : bigAddI (ofI x).neg (ofI x).mag (ofI y).neg (ofI y).mag = ofI (x + y) := by
    rw [bigAddI_yes (ofI_ok hx) (ofI_ok hy), toI_ofI, toI_ofI, hz.cap]
  have h := implBigIntAdd_any (ofI x).neg p c (ofI x).mag (ofI y).neg p2 c2 (ofI y).mag w h1 (Nat.le_trans hx (by decide)) h2 (Nat.le_trans hy (by decide))
  rw [e] at h
  exact h.mono fun _ _ ⟨p3, c3, h3, h4, h5⟩ => ⟨_, h3, ⟨p3, c3, rfl, h4.ints⟩, h5⟩
theorem big_sub (hz : Sm (x - y) 60) : Calls Tryd.prog 46 #[u, v] w fun e w' => ∃ r, e = .returned r ∧ BigAt w' r (x - y) ∧ Below w.heap.size w w' := by
  obtain ⟨p, c, rfl, h1⟩ := hu
  obtain ⟨p2, c2, rfl, h2⟩ := hv
  have e : bigSubI (ofI x).neg (ofI x).mag (ofI y).neg (ofI y).mag = ofI (x - y) := by
    rw [bigSubI_yes (ofI_ok hx) (ofI_ok hy), toI_ofI, toI_ofI, hz.cap]
  have h := implBigIntSub_any (ofI x).neg p c (ofI x).mag (ofI y).neg p2 c2 (ofI y).mag w h1 (Nat.le_trans hx (by decide)) h2 (Nat.le_trans hy (by decide))
  rw [e] at h
  exact h.mono fun _ _ ⟨p3, c3, h3, h4, h5⟩ => ⟨_, h3, ⟨p3, c3, rfl, h4.ints⟩, h5⟩
end
theorem cmp_self {n : Bool} {xs : List Int} (h : bigOkB n xs = true) : bigCmpI n xs n xs = 0 := by
  have h0 := bigOk_nat h
  have h1 : cmpL xs xs = 0 := by
    rw [cmp_lt h0 h0]
    unfold cmpN
    rw [if_neg (Nat.lt_irrefl _), if_neg (Nat.lt_irrefl _)]
  rw [bigCmpI_yes h h]
  unfold bigCmpL
  cases n <;> simp [h1]
theorem big_same {w : World} {u v : Value} {x y : Int} (hu : BigAt w u x) (hv : BigAt w v y) (e : x = y) (hx : Sm x 60) : Calls Tryd.prog 45 #[u, v] w fun e w' => e = .returned (.int .i64 0) ∧ Below w.heap.size w w' := by
  subst e
  obtain ⟨p, c, rfl, h1⟩ := hu
  obtain ⟨p2, c2, rfl, h2⟩ := hv
  have h := implBigIntCmp_any (ofI x).neg p c (ofI x).mag (ofI x).neg p2 c2 (ofI x).mag w h1 (Nat.le_trans hx (by decide)) h2 (Nat.le_trans hx (by decide))
  rw [cmp_self (ofI_ok hx)] at h
  exact h
/-- the text of a number, read again -/
theorem big_text {z : Int} (h : Sm z 3) : pbOk (fmtBig (ofI z).neg (ofI z).mag) = true ∧ pbV (fmtBig (ofI z).neg (ofI z).mag) = ofI z := by
  have h3 := fmt_parse h
  have hok : bigOkB (ofI z).neg (ofI z).mag = true := ofI_ok (Nat.le_trans h (by decide))
  obtain ⟨s, hs⟩ : ∃ s, s = fmtNat (digs z.natAbs) := ⟨_, rfl⟩
  have hs0 : s = fmtNat (ofI z).mag := hs
  rw [← hs] at h3
  have hpos : 0 < s.size := by
    have := pnOk_parts h3.1
    have h4 := this.1
    unfold isDigits at h4
    simp only [Bool.and_eq_true, decide_eq_true_eq] at h4
    exact h4.2
  cases hn : (ofI z).neg with
  | true =>
    have e : fmtBig true (ofI z).mag = ⟨#[45]⟩ ++ s := by
      unfold fmtBig
      rw [← hn, hok, hn, ← hs0]
      rfl
    rw [e]
    have hz : 0 < (⟨#[45]⟩ ++ s : ByteArray).size := by rw [ByteArray.size_append]; omega
    have h0 : (⟨#[45]⟩ ++ s : ByteArray)[0] = 45 := by
      rw [ByteArray.getElem_append_left (by decide)]
      rfl
    obtain ⟨h5, h6⟩ := pbNeg_yes hz h0
    have h7 : (⟨#[45]⟩ ++ s : ByteArray).extract 1 (⟨#[45]⟩ ++ s : ByteArray).size = s := by
      have e2 : (⟨#[45]⟩ ++ s : ByteArray).size = (⟨#[45]⟩ : ByteArray).size + s.size := ByteArray.size_append
      rw [e2]
      exact ByteArray.extract_append_eq_right rfl rfl
    rw [h7] at h6
    have hl : 0 < (pnD s).length := by
      rw [h3.2]
      have h8 := of_decide_eq_true (show decide (z < 0) = true from hn)
      exact digs_len_pos.2 (by omega)
    have hk : pbOk (⟨#[45]⟩ ++ s) = true := by unfold pbOk; rw [h5, h6, h3.1, decide_eq_true hl]; rfl
    refine ⟨hk, ?_⟩
    rw [pb_yes hk, h5, h6, h3.2, ← hn]
    rfl
  | false =>
    have e : fmtBig false (ofI z).mag = s := by
      unfold fmtBig
      rw [← hn, hok, hn, ← hs0]
      rfl
    rw [e]
    have hd := (pnOk_parts h3.1).1
    have h0 : ¬ s[0] = 45 := by
      intro h4
      unfold isDigits allDig at hd
      simp only [Bool.and_eq_true, List.all_eq_true] at hd
      have h9 := head_byte hpos
      rw [h4] at h9
      have h10 := hd.1 45 (List.mem_of_mem_head? h9)
      revert h10
      decide
    obtain ⟨h5, h6⟩ := pbNeg_no hpos h0
    have hk : pbOk s = true := by unfold pbOk; rw [h5, h6, h3.1]; rfl
    refine ⟨hk, ?_⟩
    rw [pb_yes hk, h5, h6, h3.2, ← hn]
    rfl
theorem big_fmt {w : World} {u : Value} {x : Int} (hu : BigAt w u x) (hx : Sm x 60) (ht : Tab w) : Calls Tryd.prog 29 #[u] w fun e w' => e = .returned (.string (fmtBig (ofI x).neg (ofI x).mag)) ∧ Below w.heap.size w w' := by
  obtain ⟨p, c, rfl, h1⟩ := hu
  exact implFormatBigInt_any (ofI x).neg p c (ofI x).mag w h1 (Nat.le_trans hx (by decide)) ht
theorem big_parse {w : World} {x : Int} (hx : Sm x 3) (ht : Tab w) : Calls Tryd.prog 34 #[.string (fmtBig (ofI x).neg (ofI x).mag)] w fun e w' => ∃ r, e = .returned (.tuple #[r, .bool true]) ∧ BigAt w' r x ∧ Below w.heap.size w w' := by
  have h := implParseBigInt_any (fmtBig (ofI x).neg (ofI x).mag) w (Nat.le_trans (fmtBig_size _ _) (by decide)) ht
  rw [(big_text hx).1, (big_text hx).2] at h
  exact h.mono fun _ _ ⟨p3, c3, h3, h4, h5⟩ => ⟨_, h3, ⟨p3, c3, rfl, h4.ints⟩, h5⟩
end Go.Proofs.YtjklefkkdaelnaaDoor
