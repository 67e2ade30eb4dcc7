/- The greatest common divisor: the reference. -/
import Derived.Test.YtehhpkeabckdaaaGreatDoorDivS
import Derived.Test.YtehhpkeabckdaaaGreatDoorNatInt
import Derived.Test.YtehhpkeabckdaaaGreatDoorK2
namespace Go.Proofs.YtehhpkeabckdaaaGreatDoor
set_option linter.unusedVariables false
set_option linter.unusedSimpArgs false
open Go.RowKit

/-- the value of a row that a slice of ints holds -/
def rowVal (w : World) (v : Value) : Nat := match v with
  | .slice (some ⟨b, off, none⟩) n _ => val ((List.range n).map fun j => match w.cell? ⟨b, off + j, none⟩ with | some (.int _ x) => x | _ => 0)
  | _ => 0
theorem rowVal_ints {w : World} {a : Option Addr} {c : Nat} {xs : List Int} (h : IntsAt w a c xs) : rowVal w (.slice a xs.length c) = val xs := by
  rcases h.at_ with rfl | ⟨b, off, rfl, _, hc⟩
  · unfold rowVal
    split
    · rename_i e; simp only [Value.slice.injEq] at e; obtain ⟨_, e2, _⟩ := e; simp at e2; subst e2; rfl
    · rfl
  · show val _ = _
    congr 1
    apply List.ext_getElem
    · simp
    · intro j h1 h2
      simp [hc j h2, h2]
theorem toNat_mod {m n : Int} (h0 : 0 ≤ m) (h1 : 0 ≤ n) : (m % n).toNat = m.toNat % n.toNat := by
  obtain ⟨a, rfl⟩ := Int.eq_ofNat_of_zero_le h0
  obtain ⟨b, rfl⟩ := Int.eq_ofNat_of_zero_le h1
  rw [← Int.natCast_emod, Int.toNat_natCast, Int.toNat_natCast, Int.toNat_natCast]
theorem gcd_step (x y : Nat) : Nat.gcd y (x % y) = Nat.gcd x y := by
  rw [Nat.gcd_comm x y, Nat.gcd_rec y x, Nat.gcd_comm]
set_option maxHeartbeats 1000000 in
theorem l02Plain_any (x y : Int) (w : World) (hx0 : 0 ≤ x) (hx1 : x ≤ 9223372036854775807) (hy0 : 0 ≤ y) (hy1 : y ≤ 9223372036854775807) :
    Calls Tryz.prog 116 #[.int .i64 x, .int .i64 y] w fun e w' => ∃ p c, e = .returned (.slice p (digs (Nat.gcd x.toNat y.toNat)).length c) ∧ OwnI w' w.heap.size w'.heap.size (.slice p (digs (Nat.gcd x.toNat y.toNat)).length c) (digs (Nat.gcd x.toNat y.toNat)) ∧ Below w.heap.size w w' := by
  go_enter Tryz.func116, Tryz.ntmps116
  go_wp2
  go_loop [0, 1] (fun a b => ∃ m n : Int, a = .int .i64 m ∧ b = .int .i64 n ∧ 0 ≤ m ∧ m ≤ 9223372036854775807 ∧ 0 ≤ n ∧ n ≤ 9223372036854775807 ∧ Nat.gcd m.toNat n.toNat = Nat.gcd x.toNat y.toNat) (fun _ b => (intOf b).toNat)
  case atStart => exact ⟨x, y, rfl, rfl, hx0, hx1, hy0, hy1, rfl⟩
  case round =>
    obtain ⟨m, n, rfl, rfl, hm0, hm1, hn0, hn1, hg⟩ := hrel
    have HG := Lib.hid hg
    clear hg
    by_cases h : 0 < n
    · have hnz : (n == 0) = false := beq_eq_false_iff_ne.2 (by omega)
      have e0 : 0 ≤ m % n := Int.emod_nonneg _ (by omega)
      have e1 : m % n < n := Int.emod_lt_of_pos _ h
      have E2 : Hid ((m % n).toNat = m.toNat % n.toNat) := toNat_mod hm0 hn0
      go_wp2
      go_round
      case rel => exact ⟨n, m % n, rfl, rfl, hn0, hn1, e0, by omega, by rw [E2.out, gcd_step]; exact HG.out⟩
      case measure => simp [intOf]; omega
    · have HE : Hid (m.toNat = Nat.gcd x.toNat y.toNat) := by
        have := HG.out
        rw [show n.toNat = 0 by omega, Nat.gcd_zero_right] at this
        exact this
      go_wp2_with fail
      refine (own_out (specNatOf_own m _ hm1)).mono ?_
      rintro e w1 ⟨p, c, rfl, ho, b1⟩
      rw [HE.out] at ho
      rw [HE.out]
      have O1 := Lib.hid ho
      have B1 := Lib.hid b1
      clear ho b1
      go_wp2
      go_ret
      exact ⟨p, c, rfl, O1.out, B1.out⟩

section
variable (a : Option Addr) (ca : Nat) (xs : List Int) (b : Option Addr) (cb : Nat) (ys : List Int) (w : World) (ha : IntsAt w a ca xs) (hb : IntsAt w b cb ys) (hn : xs.length ≤ 400000) (hm : ys.length ≤ 400000) (hx : digs (val xs) = xs) (hy : digs (val ys) = ys)
include ha hb hn hm hx hy
set_option maxHeartbeats 4000000 in
theorem l02Gcd_any : Calls Tryz.prog 103 #[.slice a xs.length ca, .slice b ys.length cb] w fun e w' => ∃ p c, e = .returned (.slice p (digs (Nat.gcd (val xs) (val ys))).length c) ∧ IntsAt w' p c (digs (Nat.gcd (val xs) (val ys))) ∧ Below w.heap.size w w' := by
  have HA := Lib.hid ha
  have HB := Lib.hid hb
  have HX := Lib.hid hx
  have HY := Lib.hid hy
  clear ha hb hx hy
  go_enter Tryz.func103, Tryz.ntmps103
  go_wp2_with (at_builtin; (first | (refine append_ints (own_empty _) (HA.out.below (ba1 _ _)) (by simp; omega) (by simp) rfl _ _ rfl rfl rfl ?_; intro v1 w1 hown1 hb1; simp only [List.nil_append] at hown1; obtain ⟨p1, c1, rfl, hi1⟩ := hown1.form; have I1 := Lib.hid hi1; have B1 : Hid (Below w.heap.size w w1) := (ba1 w _).trans hb1; clear hown1 hi1 hb1) | (refine append_ints (own_empty _) ((HB.out.below B1.out).below (ba1 _ _)) (by simp; omega) (by simp) rfl _ _ rfl rfl rfl ?_; intro v2 w2 hown2 hb2; simp only [List.nil_append] at hown2; obtain ⟨p2, c2, rfl, hi2⟩ := hown2.form; have I2 := Lib.hid hi2; have J1 := Lib.hid (I1.out.below ((ba1 w1 _).trans hb2)); have B2 : Hid (Below w.heap.size w w2) := bstep B1.out ((ba1 w1 _).trans hb2); clear hown2 hi2 hb2)))
  go_loopw [5, 6] (fun u v wr => ∃ (X Y : Nat) (p : Option Addr) (c : Nat) (q : Option Addr) (d : Nat), u = .slice p (digs X).length c ∧ v = .slice q (digs Y).length d ∧ Hid (IntsAt wr p c (digs X)) ∧ Hid (IntsAt wr q d (digs Y)) ∧ (digs X).length ≤ 400000 ∧ (digs Y).length ≤ 400000 ∧ Hid (Nat.gcd X Y = Nat.gcd (val xs) (val ys)) ∧ Hid (Below w.heap.size w wr)) (fun _ v wr => rowVal wr v)
  case atStart => exact ⟨val xs, val ys, p1, c1, p2, c2, by rw [HX.out], by rw [HY.out], by rw [HX.out]; exact J1.out, by rw [HY.out]; exact I2.out, by rw [HX.out]; exact hn, by rw [HY.out]; exact hm, rfl, B2.out⟩
  case round =>
    clear I1 I2 J1 B1 B2
    obtain ⟨X, Y, p, c, q, d, rfl, rfl, P, Q, hl1, hl2, G, BL⟩ := hrel
    by_cases hY : 0 < Y
    · have hp : decide (0 < (digs Y).length) = true := decide_eq_true (digs_len_pos.2 hY)
      by_cases h3 : (digs X).length < 3
      · by_cases h4 : (digs Y).length < 3
        · have hxb : X < 1000000000000000000 := by have := digs_lt_pw (n := X) (k := 2) (by omega); unfold pw at this; omega
          have hyb : Y < 1000000000000000000 := by have := digs_lt_pw (n := Y) (k := 2) (by omega); unfold pw at this; omega
          have T1 := Lib.hid (natTo_yes (xs := digs X) (digs_ok (by omega)) (by rw [val_digs]; omega))
          have T2 := Lib.hid (natTo_yes (xs := digs Y) (digs_ok (by omega)) (by rw [val_digs]; omega))
          have N1 : Hid (natToI (digs X) = (X : Int)) := by rw [Hid, T1.out.2, val_digs]
          have N2 : Hid (natToI (digs Y) = (Y : Int)) := by rw [Hid, T2.out.2, val_digs]
          go_wp2_with fail
          refine (specNatToInt_any p c (digs X) _ P.out (by omega)).mono ?_
          rintro e w3 ⟨rfl, b3⟩
          rw [N1.out, T1.out.1]
          have Q3 := Lib.hid (Q.out.below b3)
          have B3 := Lib.hid (bstep BL.out b3)
          clear b3
          go_wp2_with fail
          refine (specNatToInt_any q d (digs Y) _ Q3.out (by omega)).mono ?_
          rintro e w4 ⟨rfl, b4⟩
          rw [N2.out, T2.out.1]
          have B4 := Lib.hid (bstep B3.out b4)
          clear b4
          go_wp2_with fail
          refine (l02Plain_any (X : Int) (Y : Int) _ (by omega) (by omega) (by omega) (by omega)).mono ?_
          rintro e w5 ⟨p5, c5, rfl, ho5, b5⟩
          rw [Int.toNat_natCast, Int.toNat_natCast, G.out] at ho5 ⊢
          have O5 := Lib.hid ho5
          have B5 := Lib.hid (bstep B4.out b5)
          clear ho5 b5
          go_wp2
          go_ret
          exact ⟨p5, c5, rfl, O5.out.ints, B5.out⟩
        · go_wp2_with fail
          refine (l02Div_any p c (digs X) q d (digs Y) _ P.out Q.out hl1 hl2 (by rw [val_digs]) (by rw [val_digs]) (by rw [val_digs]; exact hY)).mono ?_
          rintro e w3 ⟨p1, c1, p2, c2, rfl, ho, b3⟩
          rw [val_digs, val_digs] at ho ⊢
          have O := Lib.hid ho.i2
          have B3 := Lib.hid (bstep BL.out b3)
          have Q3 := Lib.hid (Q.out.below b3)
          have HM : Hid (rowVal w3 (.slice p2 (digs (X % Y)).length c2) < rowVal wr (.slice q (digs Y).length d)) := by
            unfold Hid
            rw [rowVal_ints ho.i2, rowVal_ints Q.out, val_digs, val_digs]
            exact Nat.mod_lt _ hY
          have hl3 : (digs (X % Y)).length ≤ 400000 := by
            have a1 := digs_lt_pw hl1
            exact digs_len_le (Nat.lt_of_le_of_lt (Nat.mod_le _ _) a1)
          have HG2 : Hid (Nat.gcd Y (X % Y) = Nat.gcd (val xs) (val ys)) := by rw [Hid, gcd_step]; exact G.out
          clear ho b3
          go_wp2
          go_roundw
          case rel => exact ⟨Y, X % Y, q, d, p2, c2, rfl, rfl, Q3.out, O.out, hl2, hl3, HG2.out, B3.out⟩
          case measure => exact HM.out
      · go_wp2_with fail
        refine (l02Div_any p c (digs X) q d (digs Y) _ P.out Q.out hl1 hl2 (by rw [val_digs]) (by rw [val_digs]) (by rw [val_digs]; exact hY)).mono ?_
        rintro e w3 ⟨p1, c1, p2, c2, rfl, ho, b3⟩
        rw [val_digs, val_digs] at ho ⊢
        have O := Lib.hid ho.i2
        have B3 := Lib.hid (bstep BL.out b3)
        have Q3 := Lib.hid (Q.out.below b3)
        have HM : Hid (rowVal w3 (.slice p2 (digs (X % Y)).length c2) < rowVal wr (.slice q (digs Y).length d)) := by
          unfold Hid
          rw [rowVal_ints ho.i2, rowVal_ints Q.out, val_digs, val_digs]
          exact Nat.mod_lt _ hY
        have hl3 : (digs (X % Y)).length ≤ 400000 := by
          have a1 := digs_lt_pw hl1
          exact digs_len_le (Nat.lt_of_le_of_lt (Nat.mod_le _ _) a1)
        have HG2 : Hid (Nat.gcd Y (X % Y) = Nat.gcd (val xs) (val ys)) := by rw [Hid, gcd_step]; exact G.out
        clear ho b3
        go_wp2
        go_roundw
        case rel => exact ⟨Y, X % Y, q, d, p2, c2, rfl, rfl, Q3.out, O.out, hl2, hl3, HG2.out, B3.out⟩
        case measure => exact HM.out
    · have hp : decide (0 < (digs Y).length) = false := decide_eq_false (by rw [digs_len_pos]; exact hY)
      have HE : Hid (X = Nat.gcd (val xs) (val ys)) := by
        have := G.out
        rw [show Y = 0 by omega, Nat.gcd_zero_right] at this
        exact this
      rw [HE.out] at P
      rw [HE.out]
      go_wp2
      go_ret
      exact ⟨p, c, rfl, P.out, BL.out⟩
end
end Go.Proofs.YtehhpkeabckdaaaGreatDoor
