/- NatSub whole. -/
import Derived.Test.YtlcjibkpmfglcaaSub
namespace Go.Proofs.Ytlcjibkpmfglcaa
set_option linter.unusedVariables false
set_option linter.unusedSimpArgs false
open Go.RowKit

section
variable (a : Option Addr) (ca : Nat) (xs : List Int) (b : Option Addr) (cb : Nat) (ys : List Int) (w : World) (ha : IntsAt w a ca xs) (hn : xs.length ≤ 1048576) (hb : IntsAt w b cb ys) (hm : ys.length ≤ 1048576)
include ha hn hb hm
set_option maxHeartbeats 1000000 in
theorem specNatSub_any : Calls Try.prog 52 #[.slice a xs.length ca, .slice b ys.length cb] w fun e w' => ∃ p c, e = .returned (.slice p (natSubL xs ys).length c) ∧ IntsAt w' p c (natSubL xs ys) ∧ Below w.heap.size w w' := by
  have HA := Lib.hid ha
  have HB := Lib.hid hb
  clear ha hb
  by_cases h1 : natOkB xs = true
  · by_cases h2 : natOkB ys = true
    · have HC := Lib.hid (cmp_lt h1 h2)
      have HX := Lib.hid (ok_rng h1)
      have HY := Lib.hid (ok_rng h2)
      have HE : Hid (natSubL xs ys = digs (val xs - val ys)) := by unfold Hid natSubL; rw [h1, h2]; rfl
      by_cases h3 : val xs < val ys
      · have hneg : cmpL xs ys < 0 := by rw [HC.out, cmpN, if_pos h3]; omega
        have HE : Hid (natSubL xs ys = []) := by rw [Hid, HE.out, show val xs - val ys = 0 by omega, digs_zero]
        go_enter Try.func52, Try.ntmps52
        go_wp2_with fail
        refine (specNatOk_q _ _ _ _ HA.out hn).mono ?_
        rintro e w' ⟨rfl, rfl⟩
        go_wp2_with fail
        refine (specNatOk_q _ _ _ _ HB.out hm).mono ?_
        rintro e w' ⟨rfl, rfl⟩
        go_wp2_with fail
        refine (l02Cmp_any _ _ _ _ _ _ _ HA.out HB.out hn hm).mono ?_
        rintro e w1 ⟨rfl, hb1⟩
        go_wp2
        go_ret
        exact ⟨none, 0, by rw [HE.out]; rfl, by rw [HE.out]; exact IntsAt.nil _ _ _ (by unfold maxLen; omega), hb1⟩
      · have hneg : ¬ cmpL xs ys < 0 := by rw [HC.out, cmpN, if_neg h3]; split <;> omega
        have HLE : Hid (val ys ≤ val xs) := by unfold Hid; omega
        have hlen := le_of_cmp HX.out HY.out HLE.out (ok_digs h2) (ok_digs h1)
        go_enter Try.func52, Try.ntmps52
        go_wp2_with fail
        refine (specNatOk_q _ _ _ _ HA.out hn).mono ?_
        rintro e w' ⟨rfl, rfl⟩
        go_wp2_with fail
        refine (specNatOk_q _ _ _ _ HB.out hm).mono ?_
        rintro e w' ⟨rfl, rfl⟩
        go_wp2_with fail
        refine (l02Cmp_any _ _ _ _ _ _ _ HA.out HB.out hn hm).mono ?_
        rintro e w1 ⟨rfl, hb1⟩
        go_wp2_with fail
        refine (l02Sub_any _ _ _ _ _ _ _ (HA.out.below hb1) (HB.out.below hb1) hn hlen HX.out HY.out HLE.out).mono ?_
        rintro e w2 ⟨v, rfl, ho, hb2⟩
        obtain ⟨p, c, rfl, hi⟩ := ho.out
        rw [← HE.out] at hi
        rw [← HE.out]
        have HI := Lib.hid hi
        clear hi ho
        go_wp2
        go_ret
        exact ⟨_, _, rfl, HI.out.ints, hb1.trans (hb2.mono hb1.size)⟩
    · have HE : Hid (natSubL xs ys = []) := by unfold Hid natSubL; rw [Bool.eq_false_iff.2 h2]; simp
      have h2' := Bool.eq_false_iff.2 h2
      go_enter Try.func52, Try.ntmps52
      go_wp2_with fail
      refine (specNatOk_q _ _ _ _ HA.out hn).mono ?_
      rintro e w' ⟨rfl, rfl⟩
      go_wp2_with fail
      refine (specNatOk_q _ _ _ _ HB.out hm).mono ?_
      rintro e w' ⟨rfl, rfl⟩
      go_wp2
      go_ret
      exact ⟨none, 0, by rw [HE.out]; rfl, by rw [HE.out]; exact IntsAt.nil _ _ _ (by unfold maxLen; omega), Below.refl _ _⟩
  · have HE : Hid (natSubL xs ys = []) := by unfold Hid natSubL; rw [Bool.eq_false_iff.2 h1]; simp
    have h1' := Bool.eq_false_iff.2 h1
    go_enter Try.func52, Try.ntmps52
    go_wp2_with fail
    refine (specNatOk_q _ _ _ _ HA.out hn).mono ?_
    rintro e w' ⟨rfl, rfl⟩
    go_wp2
    go_ret
    exact ⟨none, 0, by rw [HE.out]; rfl, by rw [HE.out]; exact IntsAt.nil _ _ _ (by unfold maxLen; omega), Below.refl _ _⟩

set_option maxHeartbeats 1000000 in
theorem implNatSub_any : Calls Try.prog 53 #[.slice a xs.length ca, .slice b ys.length cb] w fun e w' => ∃ p c, e = .returned (.slice p (natSubL xs ys).length c) ∧ OwnI w' w.heap.size w'.heap.size (.slice p (natSubL xs ys).length c) (natSubL xs ys) ∧ Below w.heap.size w w' := by
  have HA := Lib.hid ha
  have HB := Lib.hid hb
  clear ha hb
  by_cases h1 : natOkB xs = true
  · by_cases h2 : natOkB ys = true
    · have HC := Lib.hid (cmp_lt h1 h2)
      have HX := Lib.hid (ok_rng h1)
      have HY := Lib.hid (ok_rng h2)
      have HE : Hid (natSubL xs ys = digs (val xs - val ys)) := by unfold Hid natSubL; rw [h1, h2]; rfl
      by_cases h3 : val xs < val ys
      · have hneg : cmpL xs ys < 0 := by rw [HC.out, cmpN, if_pos h3]; omega
        have HE : Hid (natSubL xs ys = []) := by rw [Hid, HE.out, show val xs - val ys = 0 by omega, digs_zero]
        go_enter Try.func53, Try.ntmps53
        go_wp2_with fail
        refine (implNatOk_q _ _ _ _ HA.out hn).mono ?_
        rintro e w' ⟨rfl, rfl⟩
        go_wp2_with fail
        refine (implNatOk_q _ _ _ _ HB.out hm).mono ?_
        rintro e w' ⟨rfl, rfl⟩
        go_wp2_with fail
        refine (natCmp_any _ _ _ _ _ _ _ HA.out HB.out hn hm).mono ?_
        rintro e w1 ⟨rfl, hb1⟩
        go_wp2
        go_ret
        exact ⟨none, 0, by rw [HE.out]; rfl, by rw [HE.out]; exact (own_nil _ _).toI, hb1⟩
      · have hneg : ¬ cmpL xs ys < 0 := by rw [HC.out, cmpN, if_neg h3]; split <;> omega
        have HLE : Hid (val ys ≤ val xs) := by unfold Hid; omega
        have hlen := le_of_cmp HX.out HY.out HLE.out (ok_digs h2) (ok_digs h1)
        go_enter Try.func53, Try.ntmps53
        go_wp2_with fail
        refine (implNatOk_q _ _ _ _ HA.out hn).mono ?_
        rintro e w' ⟨rfl, rfl⟩
        go_wp2_with fail
        refine (implNatOk_q _ _ _ _ HB.out hm).mono ?_
        rintro e w' ⟨rfl, rfl⟩
        go_wp2_with fail
        refine (natCmp_any _ _ _ _ _ _ _ HA.out HB.out hn hm).mono ?_
        rintro e w1 ⟨rfl, hb1⟩
        go_wp2_with fail
        refine (natSub_any _ _ _ _ _ _ _ (HA.out.below hb1) (HB.out.below hb1) hn hlen HX.out HY.out HLE.out).mono ?_
        rintro e w2 ⟨v, rfl, ho, hb2⟩
        obtain ⟨p, c, rfl, hi⟩ := ho.out
        rw [← HE.out] at hi
        rw [← HE.out]
        have HI := Lib.hid hi
        clear hi ho
        go_wp2
        go_ret
        exact ⟨_, _, rfl, HI.out.mono hb1.size (Nat.le_refl _), hb1.trans (hb2.mono hb1.size)⟩
    · have HE : Hid (natSubL xs ys = []) := by unfold Hid natSubL; rw [Bool.eq_false_iff.2 h2]; simp
      have h2' := Bool.eq_false_iff.2 h2
      go_enter Try.func53, Try.ntmps53
      go_wp2_with fail
      refine (implNatOk_q _ _ _ _ HA.out hn).mono ?_
      rintro e w' ⟨rfl, rfl⟩
      go_wp2_with fail
      refine (implNatOk_q _ _ _ _ HB.out hm).mono ?_
      rintro e w' ⟨rfl, rfl⟩
      go_wp2
      go_ret
      exact ⟨none, 0, by rw [HE.out]; rfl, by rw [HE.out]; exact (own_nil _ _).toI, Below.refl _ _⟩
  · have HE : Hid (natSubL xs ys = []) := by unfold Hid natSubL; rw [Bool.eq_false_iff.2 h1]; simp
    have h1' := Bool.eq_false_iff.2 h1
    go_enter Try.func53, Try.ntmps53
    go_wp2_with fail
    refine (implNatOk_q _ _ _ _ HA.out hn).mono ?_
    rintro e w' ⟨rfl, rfl⟩
    go_wp2
    go_ret
    exact ⟨none, 0, by rw [HE.out]; rfl, by rw [HE.out]; exact (own_nil _ _).toI, Below.refl _ _⟩

end
end Go.Proofs.Ytlcjibkpmfglcaa
