/- NatGcd whole. -/
import Derived.Test.YtjklefkkdaelnaaDoorGcdS
import Derived.Test.YtjklefkkdaelnaaDoorGcd
import Derived.Test.YtjklefkkdaelnaaDoorK2
namespace Go.Proofs.YtjklefkkdaelnaaDoor
set_option linter.unusedVariables false
set_option linter.unusedSimpArgs false
open Go.RowKit
def natGcdL (xs ys : List Int) : List Int := if natOkB xs && natOkB ys then digs (Nat.gcd (val xs) (val ys)) else []
theorem natGcdL_len (xs ys : List Int) : (natGcdL xs ys).length ≤ 1048576 := by
  unfold natGcdL
  split
  · rename_i h
    simp only [Bool.and_eq_true] at h
    have a1 := ok_len h.1
    have a2 := ok_len h.2
    have hlx : (digs (val xs)).length ≤ 60 := by rw [ok_digs h.1]; exact a1
    have hly : (digs (val ys)).length ≤ 60 := by rw [ok_digs h.2]; exact a2
    have b1 := digs_lt_pw hlx
    have b2 := digs_lt_pw hly
    have hg : Nat.gcd (val xs) (val ys) < pw 60 := by
      by_cases h0 : 0 < val xs
      · exact Nat.lt_of_le_of_lt (Nat.gcd_le_left _ h0) b1
      · rw [show val xs = 0 by omega, Nat.gcd_zero_left]; exact b2
    have := digs_len_le hg
    omega
  · simp
section
variable (a : Option Addr) (ca : Nat) (xs : List Int) (b : Option Addr) (cb : Nat) (ys : List Int) (w : World) (ha : IntsAt w a ca xs) (hn : xs.length ≤ 1048576) (hb : IntsAt w b cb ys) (hm : ys.length ≤ 1048576)
include ha hn hb hm
set_option maxHeartbeats 2000000 in
theorem implNatGcd_any : Calls Tryd.prog 42 #[.slice a xs.length ca, .slice b ys.length cb] w fun e w' => ∃ p c, e = .returned (.slice p (natGcdL xs ys).length c) ∧ OwnI w' w.heap.size w'.heap.size (.slice p (natGcdL xs ys).length c) (natGcdL xs ys) ∧ Below w.heap.size w w' := by
  have HA := Lib.hid ha
  have HB := Lib.hid hb
  clear ha hb
  by_cases h1 : natOkB xs = true
  · by_cases h2 : natOkB ys = true
    · have HE : Hid (natGcdL xs ys = digs (Nat.gcd (val xs) (val ys))) := by unfold Hid natGcdL; rw [h1, h2]; rfl
      have h60 := ok_len h1
      have h61 := ok_len h2
      have HX := Lib.hid (ok_digs h1)
      have HY := Lib.hid (ok_digs h2)
      go_enter Tryd.func42, Tryd.ntmps42
      go_wp2_with fail
      refine (implNatOk_q _ _ _ _ HA.out hn).mono ?_
      rintro e w' ⟨rfl, rfl⟩
      go_wp2_with fail
      refine (implNatOk_q _ _ _ _ HB.out hm).mono ?_
      rintro e w' ⟨rfl, rfl⟩
      go_wp2_with fail
      refine (natGcd_any a ca xs b cb ys _ HA.out HB.out (by omega) (by omega) HX.out HY.out).mono ?_
      rintro e w1 ⟨p, c, rfl, ho, hb1⟩
      rw [← HE.out] at ho
      rw [← HE.out]
      have HO := Lib.hid ho
      clear ho
      go_wp2
      go_ret
      exact ⟨p, c, rfl, HO.out, hb1⟩
    · have HE : Hid (natGcdL xs ys = []) := by unfold Hid natGcdL; rw [Bool.eq_false_iff.2 h2]; simp
      have h2' := Bool.eq_false_iff.2 h2
      go_enter Tryd.func42, Tryd.ntmps42
      go_wp2_with fail
      refine (implNatOk_q _ _ _ _ HA.out hn).mono ?_
      rintro e w' ⟨rfl, rfl⟩
      go_wp2_with fail
      refine (implNatOk_q _ _ _ _ HB.out hm).mono ?_
      rintro e w' ⟨rfl, rfl⟩
      go_wp2
      go_ret
      exact ⟨none, 0, by rw [HE.out]; rfl, by rw [HE.out]; exact (own_nil _ _).toI, Below.refl _ _⟩
  · have HE : Hid (natGcdL xs ys = []) := by unfold Hid natGcdL; rw [Bool.eq_false_iff.2 h1]; simp
    have h1' := Bool.eq_false_iff.2 h1
    go_enter Tryd.func42, Tryd.ntmps42
    go_wp2_with fail
    refine (implNatOk_q _ _ _ _ HA.out hn).mono ?_
    rintro e w' ⟨rfl, rfl⟩
    go_wp2
    go_ret
    exact ⟨none, 0, by rw [HE.out]; rfl, by rw [HE.out]; exact (own_nil _ _).toI, Below.refl _ _⟩
end
end Go.Proofs.YtjklefkkdaelnaaDoor
