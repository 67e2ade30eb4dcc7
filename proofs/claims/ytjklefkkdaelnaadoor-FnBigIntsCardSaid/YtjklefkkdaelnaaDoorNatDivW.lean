/- NatDiv whole. -/
import Derived.Test.YtjklefkkdaelnaaDoorDivS
import Derived.Test.YtjklefkkdaelnaaDoorNatDiv
import Derived.Test.YtjklefkkdaelnaaDoorK2
namespace Go.Proofs.YtjklefkkdaelnaaDoor
set_option linter.unusedVariables false
set_option linter.unusedSimpArgs false
open Go.RowKit
def natDivB (xs ys : List Int) : Bool := natOkB xs && natOkB ys && decide (0 < ys.length)
def natDivQ (xs ys : List Int) : List Int := if natDivB xs ys then digs (val xs / val ys) else []
def natDivR (xs ys : List Int) : List Int := if natDivB xs ys then digs (val xs % val ys) else []
section
variable {xs ys : List Int}
theorem natDiv_yes (h1 : natOkB xs = true) (h2 : natOkB ys = true) (h3 : 0 < ys.length) : natDivQ xs ys = digs (val xs / val ys) ∧ natDivR xs ys = digs (val xs % val ys) := by
  have : natDivB xs ys = true := by unfold natDivB; rw [h1, h2, decide_eq_true h3]; rfl
  exact ⟨if_pos this, if_pos this⟩
theorem natDiv_no (h : natDivB xs ys = false) : natDivQ xs ys = [] ∧ natDivR xs ys = [] := by
  unfold natDivQ natDivR; rw [h]; exact ⟨rfl, rfl⟩
theorem natDiv_no1 (h1 : natOkB xs = false) : natDivQ xs ys = [] ∧ natDivR xs ys = [] := natDiv_no (by unfold natDivB; rw [h1]; rfl)
theorem natDiv_no2 (h1 : natOkB ys = false) : natDivQ xs ys = [] ∧ natDivR xs ys = [] := natDiv_no (by unfold natDivB; rw [h1]; simp)
theorem natDiv_no3 (h1 : ¬ 0 < ys.length) : natDivQ xs ys = [] ∧ natDivR xs ys = [] := natDiv_no (by unfold natDivB; rw [decide_eq_false h1]; simp)
end
theorem natDivQ_len (xs ys : List Int) : (natDivQ xs ys).length ≤ 1048576 := by
  unfold natDivQ natDivB
  split
  · rename_i h; simp only [Bool.and_eq_true] at h; have := (div_bounds (ys := ys) (ok_rng h.1.1) (ok_len h.1.1)).1; omega
  · simp
theorem natDivR_len (xs ys : List Int) : (natDivR xs ys).length ≤ 1048576 := by
  unfold natDivR natDivB
  split
  · rename_i h; simp only [Bool.and_eq_true] at h; have := (div_bounds (ys := ys) (ok_rng h.1.1) (ok_len h.1.1)).2; omega
  · simp
section
variable (a : Option Addr) (ca : Nat) (xs : List Int) (b : Option Addr) (cb : Nat) (ys : List Int) (w : World) (ha : IntsAt w a ca xs) (hn : xs.length ≤ 1048576) (hb : IntsAt w b cb ys) (hm : ys.length ≤ 1048576)
include ha hn hb hm
set_option maxHeartbeats 2000000 in
theorem implNatDiv_own : Calls Tryd.prog 38 #[.slice a xs.length ca, .slice b ys.length cb] w fun e w' => ∃ p c p2 c2, e = .returned (.tuple #[.slice p (natDivQ xs ys).length c, .slice p2 (natDivR xs ys).length c2]) ∧ Two w' w.heap.size w'.heap.size (.slice p (natDivQ xs ys).length c) (.slice p2 (natDivR xs ys).length c2) (natDivQ xs ys) (natDivR xs ys) ∧ Below w.heap.size w w' := by
  have HA := Lib.hid ha
  have HB := Lib.hid hb
  clear ha hb
  by_cases h1 : natOkB xs = true
  · by_cases h2 : natOkB ys = true
    · by_cases h3 : 0 < ys.length
      · have HE : Hid (natDivQ xs ys = digs (val xs / val ys) ∧ natDivR xs ys = digs (val xs % val ys)) := natDiv_yes h1 h2 h3
        have h60 := ok_len h1
        have h61 := ok_len h2
        have HX := Lib.hid (ok_digs h1)
        have HY := Lib.hid (ok_digs h2)
        have H0 : Hid (0 < val ys) := by have := ok_digs h2; rw [← this, digs_len_pos] at h3; exact h3
        have hz : ((ys.length : Int) == 0) = false := beq_eq_false_iff_ne.2 (by omega)
        go_enter Tryd.func38, Tryd.ntmps38
        go_wp2_with fail
        refine (implNatOk_q _ _ _ _ HA.out hn).mono ?_
        rintro e w' ⟨rfl, rfl⟩
        go_wp2_with fail
        refine (implNatOk_q _ _ _ _ HB.out hm).mono ?_
        rintro e w' ⟨rfl, rfl⟩
        go_wp2_with fail
        refine (natDiv_any a ca xs b cb ys _ HA.out HB.out (by omega) (by omega) HX.out HY.out H0.out).mono ?_
        rintro e w1 ⟨p, c, p2, c2, rfl, ho, hb1⟩
        rw [← HE.out.1, ← HE.out.2] at ho
        rw [← HE.out.1, ← HE.out.2]
        have HO := Lib.hid ho
        clear ho
        go_wp2
        go_ret2
        exact ⟨p, c, p2, c2, rfl, HO.out, hb1⟩
      · have HE : Hid (natDivQ xs ys = [] ∧ natDivR xs ys = []) := natDiv_no3 h3
        have hz : ((ys.length : Int) == 0) = true := beq_iff_eq.2 (by omega)
        go_enter Tryd.func38, Tryd.ntmps38
        go_wp2_with fail
        refine (implNatOk_q _ _ _ _ HA.out hn).mono ?_
        rintro e w' ⟨rfl, rfl⟩
        go_wp2_with fail
        refine (implNatOk_q _ _ _ _ HB.out hm).mono ?_
        rintro e w' ⟨rfl, rfl⟩
        go_wp2
        go_ret2
        exact ⟨none, 0, none, 0, by rw [HE.out.1, HE.out.2]; rfl, by rw [HE.out.1, HE.out.2]; exact two_nil _ _ _ (Nat.le_refl _), Below.refl _ _⟩
    · have HE : Hid (natDivQ xs ys = [] ∧ natDivR xs ys = []) := natDiv_no2 (Bool.eq_false_iff.2 h2)
      have h2' := Bool.eq_false_iff.2 h2
      go_enter Tryd.func38, Tryd.ntmps38
      go_wp2_with fail
      refine (implNatOk_q _ _ _ _ HA.out hn).mono ?_
      rintro e w' ⟨rfl, rfl⟩
      go_wp2_with fail
      refine (implNatOk_q _ _ _ _ HB.out hm).mono ?_
      rintro e w' ⟨rfl, rfl⟩
      go_wp2
      go_ret2
      exact ⟨none, 0, none, 0, by rw [HE.out.1, HE.out.2]; rfl, by rw [HE.out.1, HE.out.2]; exact two_nil _ _ _ (Nat.le_refl _), Below.refl _ _⟩
  · have HE : Hid (natDivQ xs ys = [] ∧ natDivR xs ys = []) := natDiv_no1 (Bool.eq_false_iff.2 h1)
    have h1' := Bool.eq_false_iff.2 h1
    go_enter Tryd.func38, Tryd.ntmps38
    go_wp2_with fail
    refine (implNatOk_q _ _ _ _ HA.out hn).mono ?_
    rintro e w' ⟨rfl, rfl⟩
    go_wp2
    go_ret2
    exact ⟨none, 0, none, 0, by rw [HE.out.1, HE.out.2]; rfl, by rw [HE.out.1, HE.out.2]; exact two_nil _ _ _ (Nat.le_refl _), Below.refl _ _⟩
theorem implNatDiv_any : Calls Tryd.prog 38 #[.slice a xs.length ca, .slice b ys.length cb] w fun e w' => ∃ p c p2 c2, e = .returned (.tuple #[.slice p (natDivQ xs ys).length c, .slice p2 (natDivR xs ys).length c2]) ∧ Two w' w.heap.size w'.heap.size (.slice p (natDivQ xs ys).length c) (.slice p2 (natDivR xs ys).length c2) (natDivQ xs ys) (natDivR xs ys) ∧ Below w.heap.size w w' := implNatDiv_own a ca xs b cb ys w ha hn hb hm
end
end Go.Proofs.YtjklefkkdaelnaaDoor
