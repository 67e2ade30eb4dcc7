/- NatMul whole. -/
import Derived.Test.YtjklefkkdaelnaaDoorMul
namespace Go.Proofs.YtjklefkkdaelnaaDoor
set_option linter.unusedVariables false
set_option linter.unusedSimpArgs false
open Go.RowKit

section
variable (a : Option Addr) (ca : Nat) (xs : List Int) (b : Option Addr) (cb : Nat) (ys : List Int) (w : World) (ha : IntsAt w a ca xs) (hn : xs.length ≤ 1048576) (hb : IntsAt w b cb ys) (hm : ys.length ≤ 1048576)
include ha hn hb hm
set_option maxHeartbeats 1000000 in
theorem implNatMul_any : Calls Tryd.prog 41 #[.slice a xs.length ca, .slice b ys.length cb] w fun e w' => ∃ p c, e = .returned (.slice p (natMulL xs ys).length c) ∧ OwnI w' w.heap.size w'.heap.size (.slice p (natMulL xs ys).length c) (natMulL xs ys) ∧ Below w.heap.size w w' := by
  have HA := Lib.hid ha
  have HB := Lib.hid hb
  clear ha hb
  by_cases h1 : natOkB xs = true
  · by_cases h2 : natOkB ys = true
    · have HE : Hid (natMulL xs ys = capD (val xs * val ys)) := by unfold Hid natMulL; rw [h1, h2]; rfl
      have h60 := ok_len h1
      have h61 := ok_len h2
      have HC : Hid ((digs (val xs * val ys)).length ≤ 1048576) := mul_len h1 h2
      have HX := Lib.hid (ok_digs h1)
      have HY := Lib.hid (ok_digs h2)
      go_enter Tryd.func41, Tryd.ntmps41
      go_wp2_with fail
      refine (implNatOk_q _ _ _ _ HA.out hn).mono ?_
      rintro e w' ⟨rfl, rfl⟩
      go_wp2_with fail
      refine (implNatOk_q _ _ _ _ HB.out hm).mono ?_
      rintro e w' ⟨rfl, rfl⟩
      go_wp2_with fail
      refine (natMul_row a ca xs b cb ys w HA.out HB.out (by omega) (by omega) (ok_rng h1) (ok_rng h2)).mono ?_
      rintro e w1 ⟨v, rfl, ho, hb1⟩
      obtain ⟨p, c, rfl, _⟩ := ho.form
      go_wp2_with fail
      refine (ifNat_any _ _ _ _ ho HC.out).mono ?_
      rintro e w' ⟨⟨v, rfl, ho'⟩, rfl⟩
      obtain ⟨p', c', rfl, hi⟩ := ho'.out
      rw [← HE.out] at hi
      rw [← HE.out]
      have HI := Lib.hid hi
      clear ho hi ho'
      go_wp2
      go_ret
      exact ⟨_, _, rfl, HI.out, hb1⟩
    · have HE : Hid (natMulL xs ys = []) := by unfold Hid natMulL; rw [Bool.eq_false_iff.2 h2]; simp
      have h2' := Bool.eq_false_iff.2 h2
      go_enter Tryd.func41, Tryd.ntmps41
      go_wp2_with fail
      refine (implNatOk_q _ _ _ _ HA.out hn).mono ?_
      rintro e w' ⟨rfl, rfl⟩
      go_wp2_with fail
      refine (implNatOk_q _ _ _ _ HB.out hm).mono ?_
      rintro e w' ⟨rfl, rfl⟩
      go_wp2
      go_ret
      exact ⟨none, 0, by rw [HE.out]; rfl, by rw [HE.out]; exact (own_nil _ _).toI, Below.refl _ _⟩
  · have HE : Hid (natMulL xs ys = []) := by unfold Hid natMulL; rw [Bool.eq_false_iff.2 h1]; simp
    have h1' := Bool.eq_false_iff.2 h1
    go_enter Tryd.func41, Tryd.ntmps41
    go_wp2_with fail
    refine (implNatOk_q _ _ _ _ HA.out hn).mono ?_
    rintro e w' ⟨rfl, rfl⟩
    go_wp2
    go_ret
    exact ⟨none, 0, by rw [HE.out]; rfl, by rw [HE.out]; exact (own_nil _ _).toI, Below.refl _ _⟩

end
end Go.Proofs.YtjklefkkdaelnaaDoor
