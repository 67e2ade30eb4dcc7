/- The greatest common divisor: the program; NatGcd whole. -/
import Derived.Test.YtehhpkeabckdaaaGreatDoorGcdS
import Derived.Test.YtehhpkeabckdaaaGreatDoorNatDiv
import Derived.Test.YtehhpkeabckdaaaGreatDoorK2
namespace Go.Proofs.YtehhpkeabckdaaaGreatDoor
set_option linter.unusedVariables false
set_option linter.unusedSimpArgs false
open Go.RowKit
section
variable (a : Option Addr) (ca : Nat) (xs : List Int) (b : Option Addr) (cb : Nat) (ys : List Int) (w : World) (ha : IntsAt w a ca xs) (hb : IntsAt w b cb ys) (hn : xs.length ≤ 400000) (hm : ys.length ≤ 400000) (hx : digs (val xs) = xs) (hy : digs (val ys) = ys)
include ha hb hn hm hx hy
set_option maxHeartbeats 4000000 in
theorem natGcd_any : Calls Tryz.prog 49 #[.slice a xs.length ca, .slice b ys.length cb] w fun e w' => ∃ p c, e = .returned (.slice p (digs (Nat.gcd (val xs) (val ys))).length c) ∧ OwnI w' w.heap.size w'.heap.size (.slice p (digs (Nat.gcd (val xs) (val ys))).length c) (digs (Nat.gcd (val xs) (val ys))) ∧ Below w.heap.size w w' := by
  have HA := Lib.hid ha
  have HB := Lib.hid hb
  have HX := Lib.hid hx
  have HY := Lib.hid hy
  clear ha hb hx hy
  go_enter Tryz.func49, Tryz.ntmps49
  go_wp2
  go_loopw [0, 1] (fun u v wr => ∃ (X Y : Nat) (p : Option Addr) (c : Nat) (q : Option Addr) (d : Nat), u = .slice p (digs X).length c ∧ v = .slice q (digs Y).length d ∧ Hid (IntsAt wr p c (digs X)) ∧ Hid (IntsAt wr q d (digs Y)) ∧ (digs X).length ≤ 400000 ∧ (digs Y).length ≤ 400000 ∧ Hid (Nat.gcd X Y = Nat.gcd (val xs) (val ys)) ∧ Hid (Below w.heap.size w wr)) (fun _ v wr => rowVal wr v)
  case atStart => exact ⟨val xs, val ys, a, ca, b, cb, by rw [HX.out], by rw [HY.out], by rw [HX.out]; exact HA.out, by rw [HY.out]; exact HB.out, by rw [HX.out]; exact hn, by rw [HY.out]; exact hm, rfl, Below.refl _ _⟩
  case round =>
    obtain ⟨X, Y, p, c, q, d, rfl, rfl, P, Q, hl1, hl2, G, BL⟩ := hrel
    by_cases hY : 0 < Y
    · have hp : decide (0 < (digs Y).length) = true := decide_eq_true (digs_len_pos.2 hY)
      go_wp2_with fail
      refine (natDiv_any p c (digs X) q d (digs Y) _ P.out Q.out (by omega) (by omega) (by rw [val_digs]) (by rw [val_digs]) (by rw [val_digs]; exact hY)).mono ?_
      rintro e w3 ⟨p1, c1, p2, c2, rfl, ho, b3⟩
      rw [val_digs, val_digs] at ho ⊢
      have O := Lib.hid ho.i2
      have B3 := Lib.hid (bstep BL.out b3)
      have Q3 := Lib.hid (Q.out.below b3)
      have HM : Hid (rowVal w3 (.slice p2 (digs (X % Y)).length c2) < rowVal wr (.slice q (digs Y).length d)) := by
        unfold Hid
        rw [rowVal_ints ho.i2, rowVal_ints Q.out, val_digs, val_digs]
        exact Nat.mod_lt _ hY
      have hl3 : (digs (X % Y)).length ≤ 400000 := by
        have a1 := digs_lt_pw hl1
        exact digs_len_le (Nat.lt_of_le_of_lt (Nat.mod_le _ _) a1)
      have HG2 : Hid (Nat.gcd Y (X % Y) = Nat.gcd (val xs) (val ys)) := by rw [Hid, gcd_step]; exact G.out
      clear ho b3
      go_wp2
      go_roundw
      case rel => exact ⟨Y, X % Y, q, d, p2, c2, rfl, rfl, Q3.out, O.out, hl2, hl3, HG2.out, B3.out⟩
      case measure => exact HM.out
    · have hp : decide (0 < (digs Y).length) = false := decide_eq_false (by rw [digs_len_pos]; exact hY)
      have HE : Hid (X = Nat.gcd (val xs) (val ys)) := by
        have := G.out
        rw [show Y = 0 by omega, Nat.gcd_zero_right] at this
        exact this
      rw [HE.out] at P hl1
      rw [HE.out]
      go_wp2_with fail
      refine (own_out (clone_any p c _ _ P.out (by omega))).mono ?_
      rintro e w3 ⟨p1, c1, rfl, ho, b3⟩
      have O := Lib.hid ho
      have B3 := Lib.hid (bstep BL.out b3)
      have hs := BL.out.size
      clear ho b3
      go_wp2
      go_ret
      exact ⟨p1, c1, rfl, O.out.mono hs (Nat.le_refl _), B3.out⟩
end
end Go.Proofs.YtehhpkeabckdaaaGreatDoor
