/- The reference's lowest terms (l04Low). -/
import Derived.Test.YtehhpkeabckdaaaGreatDoorRatF
namespace Go.Proofs.YtehhpkeabckdaaaGreatDoor
set_option linter.unusedVariables false
set_option linter.unusedSimpArgs false
open Go.RowKit
section
variable (n : Bool) (a : Option Addr) (ca : Nat) (xs : List Int) (b : Option Addr) (cb : Nat) (ys : List Int) (w : World) (ha : IntsAt w a ca xs) (hn : xs.length ≤ 400000) (hb : IntsAt w b cb ys) (hm : ys.length ≤ 400000) (hx : Rng xs) (hy : Rng ys) (N D g X Y : Nat) (hN : val xs = N) (hD : val ys = D) (hlN : (digs N).length ≤ 400000) (hlD : (digs D).length ≤ 400000)
set_option maxHeartbeats 4000000 in
include ha hn hb hm hx hy hN hD in
theorem l04Low_zero (h0 : D = 0) : Calls Tryz.prog 85 #[.bool n, .slice a xs.length ca, .slice b ys.length cb] w (RatRetS w zeroRA) := by
  have HA := Lib.hid ha
  have HB := Lib.hid hb
  have HX := Lib.hid hx
  have HY := Lib.hid hy
  have HN := Lib.hid hN
  have HD := Lib.hid hD
  clear ha hb hx hy hN hD
  have hz : (((digs D).length : Int) == 0) = true := by rw [h0, digs_zero]; rfl
  clear h0
  go_enter Tryz.func85, Tryz.ntmps85
  go_wp2_with fail
  refine (l02Trim_out a ca xs N _ (HA.out.below (ba1 _ _)) (by omega) HX.out HN.out).mono ?_
  rintro e W1 ⟨rfl, hI1, b1⟩
  have Rr := bx1_0 b1
  have B := Lib.hid (bstep (ba1 _ _) b1)
  have sb1 := b1.size
  try simp at sb1
  have I1 := Lib.hid hI1
  clear hI1
  have Yr0 := Rr.cell 0 rfl
  have Yr1 := Rr.cell 1 rfl
  have Yr2 := Rr.cell 2 rfl
  have Lr := Rr.lt
  have Fr0 := Rr.frozen 0
  have Fr1 := Rr.frozen 1
  have Fr2 := Rr.frozen 2
  clear b1
  go_wp2_with fail
  refine (l02Trim_out b cb ys D _ (HB.out.below B.out) (by omega) HY.out HD.out).mono ?_
  rintro e W2 ⟨rfl, hI2, b2⟩
  clear Yr0 Yr1 Yr2 Lr Fr0 Fr1 Fr2
  have Rr := box_step Rr b2
  have B := Lib.hid (bstep B.out b2)
  have I1 := Lib.hid (I1.out.below b2)
  have sb2 := b2.size
  have I2 := Lib.hid hI2
  clear hI2
  have Yr0 := Rr.cell 0 rfl
  have Yr1 := Rr.cell 1 rfl
  have Yr2 := Rr.cell 2 rfl
  have Lr := Rr.lt
  have Fr0 := Rr.frozen 0
  have Fr1 := Rr.frozen 1
  have Fr2 := Rr.frozen 2
  clear b2
  go_wp2
  refine bodyPost_ret (v := .agg #[.bool false, .slice none 0 0, .slice none 0 0]) (by simp [results, Tryz.results85, go_sem, Yr0, Yr1, Yr2, Lr]) rfl ⟨none, 0, none, 0, rfl, ratzF_end (by first | omega | (simp; done) | (simp; omega)) B.out _ _ _⟩

set_option maxHeartbeats 4000000 in
include ha hn hb hm hx hy hN hD hlN hlD in
theorem l04Low_one (h1 : D = 1) (hX : N = X) (hY : D = Y) : Calls Tryz.prog 85 #[.bool n, .slice a xs.length ca, .slice b ys.length cb] w (RatRetS w (fitRA n X Y)) := by
  have HA := Lib.hid ha
  have HB := Lib.hid hb
  have HX := Lib.hid hx
  have HY := Lib.hid hy
  have HN := Lib.hid hN
  have HD := Lib.hid hD
  clear ha hb hx hy hN hD
  have hz : (((digs D).length : Int) == 0) = false := beq_eq_false_iff_ne.2 (by have := (digs_len_pos (N := D)).2 (by omega); omega)
  have hD1 : decide (D = 1) = true := decide_eq_true h1
  subst hX hY
  clear h1
  by_cases k1 : (digs N).length ≤ 24
  · have k1' : decide ((24 : Int) < ((digs N).length : Int)) = false := decide_eq_false (by omega)
    by_cases k2 : (digs D).length ≤ 24
    · have k2' : decide ((24 : Int) < ((digs D).length : Int)) = false := decide_eq_false (by omega)
      rw [fitRA_yes k1 k2]
      go_enter Tryz.func85, Tryz.ntmps85
      go_wp2_with fail
      refine (l02Trim_out a ca xs N _ (HA.out.below (ba1 _ _)) (by omega) HX.out HN.out).mono ?_
      rintro e W3 ⟨rfl, hI1, b3⟩
      have Rr := bx1_0 b3
      have B := Lib.hid (bstep (ba1 _ _) b3)
      have sb3 := b3.size
      try simp at sb3
      have I1 := Lib.hid hI1
      clear hI1
      have Yr0 := Rr.cell 0 rfl
      have Yr1 := Rr.cell 1 rfl
      have Yr2 := Rr.cell 2 rfl
      have Lr := Rr.lt
      have Fr0 := Rr.frozen 0
      have Fr1 := Rr.frozen 1
      have Fr2 := Rr.frozen 2
      clear b3
      go_wp2_with fail
      refine (l02Trim_out b cb ys D _ (HB.out.below B.out) (by omega) HY.out HD.out).mono ?_
      rintro e W4 ⟨rfl, hI2, b4⟩
      clear Yr0 Yr1 Yr2 Lr Fr0 Fr1 Fr2
      have Rr := box_step Rr b4
      have B := Lib.hid (bstep B.out b4)
      have I1 := Lib.hid (I1.out.below b4)
      have sb4 := b4.size
      have I2 := Lib.hid hI2
      clear hI2
      have Yr0 := Rr.cell 0 rfl
      have Yr1 := Rr.cell 1 rfl
      have Yr2 := Rr.cell 2 rfl
      have Lr := Rr.lt
      have Fr0 := Rr.frozen 0
      have Fr1 := Rr.frozen 1
      have Fr2 := Rr.frozen 2
      clear b4
      go_wp2_with fail
      refine (l04One_any b cb D _ I2.out).mono ?_
      rintro e W5 ⟨rfl, b5⟩
      clear Yr0 Yr1 Yr2 Lr Fr0 Fr1 Fr2
      have Rr := box_step Rr b5
      have B := Lib.hid (bstep B.out b5)
      have I1 := Lib.hid (I1.out.below b5)
      have I2 := Lib.hid (I2.out.below b5)
      have sb5 := b5.size
      have Yr0 := Rr.cell 0 rfl
      have Yr1 := Rr.cell 1 rfl
      have Yr2 := Rr.cell 2 rfl
      have Lr := Rr.lt
      have Fr0 := Rr.frozen 0
      have Fr1 := Rr.frozen 1
      have Fr2 := Rr.frozen 2
      clear b5
      go_wp2_with fail
      refine (l03Make_dig n N a ca _ I1.out (by omega)).mono ?_
      rintro e W6 ⟨p5, c5, rfl, hO, b6⟩
      clear Yr0 Yr1 Yr2 Lr Fr0 Fr1 Fr2
      have Rr := box_step Rr b6
      have B := Lib.hid (bstep B.out b6)
      have I1 := Lib.hid (I1.out.below b6)
      have I2 := Lib.hid (I2.out.below b6)
      have sb6 := b6.size
      have O := Lib.hid hO
      clear hO
      have Yr0 := Rr.cell 0 rfl
      have Yr1 := Rr.cell 1 rfl
      have Yr2 := Rr.cell 2 rfl
      have Lr := Rr.lt
      have Fr0 := Rr.frozen 0
      have Fr1 := Rr.frozen 1
      have Fr2 := Rr.frozen 2
      clear b6
      go_wp2_with (at_builtin; go_must (refine append_ints (own_empty _) ((I2.out).below (ba1 _ _)) (by simp only [List.length_nil]; omega) (by simp) rfl _ _ rfl rfl rfl ?_); intro e W7 hown7 b7; simp only [List.nil_append] at hown7; obtain ⟨p6, c6, rfl, _⟩ := hown7.form; replace b7 := (ba1 _ _).trans b7; clear Yr0 Yr1 Yr2 Lr Fr0 Fr1 Fr2; have Rr := box_step Rr b7; have B := Lib.hid (bstep B.out b7); have I1 := Lib.hid (I1.out.below b7); have I2 := Lib.hid (I2.out.below b7); have O := Lib.hid (O.out.below b7); have sb7 := b7.size; have Q := Lib.hid hown7.toI; clear hown7; have Yr0 := Rr.cell 0 rfl; have Yr1 := Rr.cell 1 rfl; have Yr2 := Rr.cell 2 rfl; have Lr := Rr.lt; have Fr0 := Rr.frozen 0; have Fr1 := Rr.frozen 1; have Fr2 := Rr.frozen 2; clear b7)
      go_wp2
      refine bodyPost_ret (v := .agg #[.bool (mkBI n (digs N)).neg, .slice p5 (digs N).length c5, .slice p6 (digs D).length c6]) (by simp [results, Tryz.results85, go_sem, Yr0, Yr1, Yr2, Lr]) rfl ⟨p5, c5, p6, c6, rfl, ratF_end (by first | omega | (simp; done) | (simp; omega)) (by first | omega | (simp; done) | (simp; omega)) (TwoF.of O.out.fr Q.out.fr (Nat.le_refl _) (by first | omega | (simp; done) | (simp; omega))) B.out _ _ _⟩
    · have k2' : decide ((24 : Int) < ((digs D).length : Int)) = true := decide_eq_true (by omega)
      rw [fitRA_no2 k2]
      go_enter Tryz.func85, Tryz.ntmps85
      go_wp2_with fail
      refine (l02Trim_out a ca xs N _ (HA.out.below (ba1 _ _)) (by omega) HX.out HN.out).mono ?_
      rintro e W8 ⟨rfl, hI1, b8⟩
      have Rr := bx1_0 b8
      have B := Lib.hid (bstep (ba1 _ _) b8)
      have sb8 := b8.size
      try simp at sb8
      have I1 := Lib.hid hI1
      clear hI1
      have Yr0 := Rr.cell 0 rfl
      have Yr1 := Rr.cell 1 rfl
      have Yr2 := Rr.cell 2 rfl
      have Lr := Rr.lt
      have Fr0 := Rr.frozen 0
      have Fr1 := Rr.frozen 1
      have Fr2 := Rr.frozen 2
      clear b8
      go_wp2_with fail
      refine (l02Trim_out b cb ys D _ (HB.out.below B.out) (by omega) HY.out HD.out).mono ?_
      rintro e W9 ⟨rfl, hI2, b9⟩
      clear Yr0 Yr1 Yr2 Lr Fr0 Fr1 Fr2
      have Rr := box_step Rr b9
      have B := Lib.hid (bstep B.out b9)
      have I1 := Lib.hid (I1.out.below b9)
      have sb9 := b9.size
      have I2 := Lib.hid hI2
      clear hI2
      have Yr0 := Rr.cell 0 rfl
      have Yr1 := Rr.cell 1 rfl
      have Yr2 := Rr.cell 2 rfl
      have Lr := Rr.lt
      have Fr0 := Rr.frozen 0
      have Fr1 := Rr.frozen 1
      have Fr2 := Rr.frozen 2
      clear b9
      go_wp2_with fail
      refine (l04One_any b cb D _ I2.out).mono ?_
      rintro e W10 ⟨rfl, b10⟩
      clear Yr0 Yr1 Yr2 Lr Fr0 Fr1 Fr2
      have Rr := box_step Rr b10
      have B := Lib.hid (bstep B.out b10)
      have I1 := Lib.hid (I1.out.below b10)
      have I2 := Lib.hid (I2.out.below b10)
      have sb10 := b10.size
      have Yr0 := Rr.cell 0 rfl
      have Yr1 := Rr.cell 1 rfl
      have Yr2 := Rr.cell 2 rfl
      have Lr := Rr.lt
      have Fr0 := Rr.frozen 0
      have Fr1 := Rr.frozen 1
      have Fr2 := Rr.frozen 2
      clear b10
      go_wp2
      refine bodyPost_ret (v := .agg #[.bool false, .slice none 0 0, .slice none 0 0]) (by simp [results, Tryz.results85, go_sem, Yr0, Yr1, Yr2, Lr]) rfl ⟨none, 0, none, 0, rfl, ratzF_end (by first | omega | (simp; done) | (simp; omega)) B.out _ _ _⟩
  · have k1' : decide ((24 : Int) < ((digs N).length : Int)) = true := decide_eq_true (by omega)
    rw [fitRA_no1 k1]
    go_enter Tryz.func85, Tryz.ntmps85
    go_wp2_with fail
    refine (l02Trim_out a ca xs N _ (HA.out.below (ba1 _ _)) (by omega) HX.out HN.out).mono ?_
    rintro e W11 ⟨rfl, hI1, b11⟩
    have Rr := bx1_0 b11
    have B := Lib.hid (bstep (ba1 _ _) b11)
    have sb11 := b11.size
    try simp at sb11
    have I1 := Lib.hid hI1
    clear hI1
    have Yr0 := Rr.cell 0 rfl
    have Yr1 := Rr.cell 1 rfl
    have Yr2 := Rr.cell 2 rfl
    have Lr := Rr.lt
    have Fr0 := Rr.frozen 0
    have Fr1 := Rr.frozen 1
    have Fr2 := Rr.frozen 2
    clear b11
    go_wp2_with fail
    refine (l02Trim_out b cb ys D _ (HB.out.below B.out) (by omega) HY.out HD.out).mono ?_
    rintro e W12 ⟨rfl, hI2, b12⟩
    clear Yr0 Yr1 Yr2 Lr Fr0 Fr1 Fr2
    have Rr := box_step Rr b12
    have B := Lib.hid (bstep B.out b12)
    have I1 := Lib.hid (I1.out.below b12)
    have sb12 := b12.size
    have I2 := Lib.hid hI2
    clear hI2
    have Yr0 := Rr.cell 0 rfl
    have Yr1 := Rr.cell 1 rfl
    have Yr2 := Rr.cell 2 rfl
    have Lr := Rr.lt
    have Fr0 := Rr.frozen 0
    have Fr1 := Rr.frozen 1
    have Fr2 := Rr.frozen 2
    clear b12
    go_wp2_with fail
    refine (l04One_any b cb D _ I2.out).mono ?_
    rintro e W13 ⟨rfl, b13⟩
    clear Yr0 Yr1 Yr2 Lr Fr0 Fr1 Fr2
    have Rr := box_step Rr b13
    have B := Lib.hid (bstep B.out b13)
    have I1 := Lib.hid (I1.out.below b13)
    have I2 := Lib.hid (I2.out.below b13)
    have sb13 := b13.size
    have Yr0 := Rr.cell 0 rfl
    have Yr1 := Rr.cell 1 rfl
    have Yr2 := Rr.cell 2 rfl
    have Lr := Rr.lt
    have Fr0 := Rr.frozen 0
    have Fr1 := Rr.frozen 1
    have Fr2 := Rr.frozen 2
    clear b13
    go_wp2
    refine bodyPost_ret (v := .agg #[.bool false, .slice none 0 0, .slice none 0 0]) (by simp [results, Tryz.results85, go_sem, Yr0, Yr1, Yr2, Lr]) rfl ⟨none, 0, none, 0, rfl, ratzF_end (by first | omega | (simp; done) | (simp; omega)) B.out _ _ _⟩

set_option maxHeartbeats 4000000 in
include ha hn hb hm hx hy hN hD hlN hlD in
theorem l04Low_g1 (h0 : D ≠ 0) (h1 : D ≠ 1) (hg : Nat.gcd N D = g) (hg1 : g = 1) (hX : N = X) (hY : D = Y) : Calls Tryz.prog 85 #[.bool n, .slice a xs.length ca, .slice b ys.length cb] w (RatRetS w (fitRA n X Y)) := by
  have HA := Lib.hid ha
  have HB := Lib.hid hb
  have HX := Lib.hid hx
  have HY := Lib.hid hy
  have HN := Lib.hid hN
  have HD := Lib.hid hD
  clear ha hb hx hy hN hD
  have hz : (((digs D).length : Int) == 0) = false := beq_eq_false_iff_ne.2 (by have := (digs_len_pos (N := D)).2 (by omega); omega)
  have hD1 : decide (D = 1) = false := decide_eq_false h1
  have hG1 : decide (g = 1) = true := decide_eq_true hg1
  have HG := Lib.hid hg
  subst hX hY
  clear h0 h1 hg hg1
  by_cases k1 : (digs N).length ≤ 24
  · have k1' : decide ((24 : Int) < ((digs N).length : Int)) = false := decide_eq_false (by omega)
    by_cases k2 : (digs D).length ≤ 24
    · have k2' : decide ((24 : Int) < ((digs D).length : Int)) = false := decide_eq_false (by omega)
      rw [fitRA_yes k1 k2]
      go_enter Tryz.func85, Tryz.ntmps85
      go_wp2_with fail
      refine (l02Trim_out a ca xs N _ (HA.out.below (ba1 _ _)) (by omega) HX.out HN.out).mono ?_
      rintro e W14 ⟨rfl, hI1, b14⟩
      have Rr := bx1_0 b14
      have B := Lib.hid (bstep (ba1 _ _) b14)
      have sb14 := b14.size
      try simp at sb14
      have I1 := Lib.hid hI1
      clear hI1
      have Yr0 := Rr.cell 0 rfl
      have Yr1 := Rr.cell 1 rfl
      have Yr2 := Rr.cell 2 rfl
      have Lr := Rr.lt
      have Fr0 := Rr.frozen 0
      have Fr1 := Rr.frozen 1
      have Fr2 := Rr.frozen 2
      clear b14
      go_wp2_with fail
      refine (l02Trim_out b cb ys D _ (HB.out.below B.out) (by omega) HY.out HD.out).mono ?_
      rintro e W15 ⟨rfl, hI2, b15⟩
      clear Yr0 Yr1 Yr2 Lr Fr0 Fr1 Fr2
      have Rr := box_step Rr b15
      have B := Lib.hid (bstep B.out b15)
      have I1 := Lib.hid (I1.out.below b15)
      have sb15 := b15.size
      have I2 := Lib.hid hI2
      clear hI2
      have Yr0 := Rr.cell 0 rfl
      have Yr1 := Rr.cell 1 rfl
      have Yr2 := Rr.cell 2 rfl
      have Lr := Rr.lt
      have Fr0 := Rr.frozen 0
      have Fr1 := Rr.frozen 1
      have Fr2 := Rr.frozen 2
      clear b15
      go_wp2_with fail
      refine (l04One_any b cb D _ I2.out).mono ?_
      rintro e W16 ⟨rfl, b16⟩
      clear Yr0 Yr1 Yr2 Lr Fr0 Fr1 Fr2
      have Rr := box_step Rr b16
      have B := Lib.hid (bstep B.out b16)
      have I1 := Lib.hid (I1.out.below b16)
      have I2 := Lib.hid (I2.out.below b16)
      have sb16 := b16.size
      have Yr0 := Rr.cell 0 rfl
      have Yr1 := Rr.cell 1 rfl
      have Yr2 := Rr.cell 2 rfl
      have Lr := Rr.lt
      have Fr0 := Rr.frozen 0
      have Fr1 := Rr.frozen 1
      have Fr2 := Rr.frozen 2
      clear b16
      go_wp2_with fail
      refine (l02Gcd_out a ca N b cb D g _ I1.out I2.out (by omega) (by omega) HG.out).mono ?_
      rintro e W17 ⟨p, c, rfl, hG, b17⟩
      clear Yr0 Yr1 Yr2 Lr Fr0 Fr1 Fr2
      have Rr := box_step Rr b17
      have B := Lib.hid (bstep B.out b17)
      have I1 := Lib.hid (I1.out.below b17)
      have I2 := Lib.hid (I2.out.below b17)
      have sb17 := b17.size
      have G := Lib.hid hG
      clear hG
      have Yr0 := Rr.cell 0 rfl
      have Yr1 := Rr.cell 1 rfl
      have Yr2 := Rr.cell 2 rfl
      have Lr := Rr.lt
      have Fr0 := Rr.frozen 0
      have Fr1 := Rr.frozen 1
      have Fr2 := Rr.frozen 2
      clear b17
      go_wp2_with fail
      refine (l04One_any p c g _ G.out).mono ?_
      rintro e W18 ⟨rfl, b18⟩
      clear Yr0 Yr1 Yr2 Lr Fr0 Fr1 Fr2
      have Rr := box_step Rr b18
      have B := Lib.hid (bstep B.out b18)
      have I1 := Lib.hid (I1.out.below b18)
      have I2 := Lib.hid (I2.out.below b18)
      have G := Lib.hid (G.out.below b18)
      have sb18 := b18.size
      have Yr0 := Rr.cell 0 rfl
      have Yr1 := Rr.cell 1 rfl
      have Yr2 := Rr.cell 2 rfl
      have Lr := Rr.lt
      have Fr0 := Rr.frozen 0
      have Fr1 := Rr.frozen 1
      have Fr2 := Rr.frozen 2
      clear b18
      go_wp2_with fail
      refine (l03Make_dig n N a ca _ I1.out (by omega)).mono ?_
      rintro e W19 ⟨p5, c5, rfl, hO, b19⟩
      clear Yr0 Yr1 Yr2 Lr Fr0 Fr1 Fr2
      have Rr := box_step Rr b19
      have B := Lib.hid (bstep B.out b19)
      have I1 := Lib.hid (I1.out.below b19)
      have I2 := Lib.hid (I2.out.below b19)
      have G := Lib.hid (G.out.below b19)
      have sb19 := b19.size
      have O := Lib.hid hO
      clear hO
      have Yr0 := Rr.cell 0 rfl
      have Yr1 := Rr.cell 1 rfl
      have Yr2 := Rr.cell 2 rfl
      have Lr := Rr.lt
      have Fr0 := Rr.frozen 0
      have Fr1 := Rr.frozen 1
      have Fr2 := Rr.frozen 2
      clear b19
      go_wp2_with (at_builtin; go_must (refine append_ints (own_empty _) ((I2.out).below (ba1 _ _)) (by simp only [List.length_nil]; omega) (by simp) rfl _ _ rfl rfl rfl ?_); intro e W20 hown20 b20; simp only [List.nil_append] at hown20; obtain ⟨p6, c6, rfl, _⟩ := hown20.form; replace b20 := (ba1 _ _).trans b20; clear Yr0 Yr1 Yr2 Lr Fr0 Fr1 Fr2; have Rr := box_step Rr b20; have B := Lib.hid (bstep B.out b20); have I1 := Lib.hid (I1.out.below b20); have I2 := Lib.hid (I2.out.below b20); have G := Lib.hid (G.out.below b20); have O := Lib.hid (O.out.below b20); have sb20 := b20.size; have Q := Lib.hid hown20.toI; clear hown20; have Yr0 := Rr.cell 0 rfl; have Yr1 := Rr.cell 1 rfl; have Yr2 := Rr.cell 2 rfl; have Lr := Rr.lt; have Fr0 := Rr.frozen 0; have Fr1 := Rr.frozen 1; have Fr2 := Rr.frozen 2; clear b20)
      go_wp2
      refine bodyPost_ret (v := .agg #[.bool (mkBI n (digs N)).neg, .slice p5 (digs N).length c5, .slice p6 (digs D).length c6]) (by simp [results, Tryz.results85, go_sem, Yr0, Yr1, Yr2, Lr]) rfl ⟨p5, c5, p6, c6, rfl, ratF_end (by first | omega | (simp; done) | (simp; omega)) (by first | omega | (simp; done) | (simp; omega)) (TwoF.of O.out.fr Q.out.fr (Nat.le_refl _) (by first | omega | (simp; done) | (simp; omega))) B.out _ _ _⟩
    · have k2' : decide ((24 : Int) < ((digs D).length : Int)) = true := decide_eq_true (by omega)
      rw [fitRA_no2 k2]
      go_enter Tryz.func85, Tryz.ntmps85
      go_wp2_with fail
      refine (l02Trim_out a ca xs N _ (HA.out.below (ba1 _ _)) (by omega) HX.out HN.out).mono ?_
      rintro e W21 ⟨rfl, hI1, b21⟩
      have Rr := bx1_0 b21
      have B := Lib.hid (bstep (ba1 _ _) b21)
      have sb21 := b21.size
      try simp at sb21
      have I1 := Lib.hid hI1
      clear hI1
      have Yr0 := Rr.cell 0 rfl
      have Yr1 := Rr.cell 1 rfl
      have Yr2 := Rr.cell 2 rfl
      have Lr := Rr.lt
      have Fr0 := Rr.frozen 0
      have Fr1 := Rr.frozen 1
      have Fr2 := Rr.frozen 2
      clear b21
      go_wp2_with fail
      refine (l02Trim_out b cb ys D _ (HB.out.below B.out) (by omega) HY.out HD.out).mono ?_
      rintro e W22 ⟨rfl, hI2, b22⟩
      clear Yr0 Yr1 Yr2 Lr Fr0 Fr1 Fr2
      have Rr := box_step Rr b22
      have B := Lib.hid (bstep B.out b22)
      have I1 := Lib.hid (I1.out.below b22)
      have sb22 := b22.size
      have I2 := Lib.hid hI2
      clear hI2
      have Yr0 := Rr.cell 0 rfl
      have Yr1 := Rr.cell 1 rfl
      have Yr2 := Rr.cell 2 rfl
      have Lr := Rr.lt
      have Fr0 := Rr.frozen 0
      have Fr1 := Rr.frozen 1
      have Fr2 := Rr.frozen 2
      clear b22
      go_wp2_with fail
      refine (l04One_any b cb D _ I2.out).mono ?_
      rintro e W23 ⟨rfl, b23⟩
      clear Yr0 Yr1 Yr2 Lr Fr0 Fr1 Fr2
      have Rr := box_step Rr b23
      have B := Lib.hid (bstep B.out b23)
      have I1 := Lib.hid (I1.out.below b23)
      have I2 := Lib.hid (I2.out.below b23)
      have sb23 := b23.size
      have Yr0 := Rr.cell 0 rfl
      have Yr1 := Rr.cell 1 rfl
      have Yr2 := Rr.cell 2 rfl
      have Lr := Rr.lt
      have Fr0 := Rr.frozen 0
      have Fr1 := Rr.frozen 1
      have Fr2 := Rr.frozen 2
      clear b23
      go_wp2_with fail
      refine (l02Gcd_out a ca N b cb D g _ I1.out I2.out (by omega) (by omega) HG.out).mono ?_
      rintro e W24 ⟨p, c, rfl, hG, b24⟩
      clear Yr0 Yr1 Yr2 Lr Fr0 Fr1 Fr2
      have Rr := box_step Rr b24
      have B := Lib.hid (bstep B.out b24)
      have I1 := Lib.hid (I1.out.below b24)
      have I2 := Lib.hid (I2.out.below b24)
      have sb24 := b24.size
      have G := Lib.hid hG
      clear hG
      have Yr0 := Rr.cell 0 rfl
      have Yr1 := Rr.cell 1 rfl
      have Yr2 := Rr.cell 2 rfl
      have Lr := Rr.lt
      have Fr0 := Rr.frozen 0
      have Fr1 := Rr.frozen 1
      have Fr2 := Rr.frozen 2
      clear b24
      go_wp2_with fail
      refine (l04One_any p c g _ G.out).mono ?_
      rintro e W25 ⟨rfl, b25⟩
      clear Yr0 Yr1 Yr2 Lr Fr0 Fr1 Fr2
      have Rr := box_step Rr b25
      have B := Lib.hid (bstep B.out b25)
      have I1 := Lib.hid (I1.out.below b25)
      have I2 := Lib.hid (I2.out.below b25)
      have G := Lib.hid (G.out.below b25)
      have sb25 := b25.size
      have Yr0 := Rr.cell 0 rfl
      have Yr1 := Rr.cell 1 rfl
      have Yr2 := Rr.cell 2 rfl
      have Lr := Rr.lt
      have Fr0 := Rr.frozen 0
      have Fr1 := Rr.frozen 1
      have Fr2 := Rr.frozen 2
      clear b25
      go_wp2
      refine bodyPost_ret (v := .agg #[.bool false, .slice none 0 0, .slice none 0 0]) (by simp [results, Tryz.results85, go_sem, Yr0, Yr1, Yr2, Lr]) rfl ⟨none, 0, none, 0, rfl, ratzF_end (by first | omega | (simp; done) | (simp; omega)) B.out _ _ _⟩
  · have k1' : decide ((24 : Int) < ((digs N).length : Int)) = true := decide_eq_true (by omega)
    rw [fitRA_no1 k1]
    go_enter Tryz.func85, Tryz.ntmps85
    go_wp2_with fail
    refine (l02Trim_out a ca xs N _ (HA.out.below (ba1 _ _)) (by omega) HX.out HN.out).mono ?_
    rintro e W26 ⟨rfl, hI1, b26⟩
    have Rr := bx1_0 b26
    have B := Lib.hid (bstep (ba1 _ _) b26)
    have sb26 := b26.size
    try simp at sb26
    have I1 := Lib.hid hI1
    clear hI1
    have Yr0 := Rr.cell 0 rfl
    have Yr1 := Rr.cell 1 rfl
    have Yr2 := Rr.cell 2 rfl
    have Lr := Rr.lt
    have Fr0 := Rr.frozen 0
    have Fr1 := Rr.frozen 1
    have Fr2 := Rr.frozen 2
    clear b26
    go_wp2_with fail
    refine (l02Trim_out b cb ys D _ (HB.out.below B.out) (by omega) HY.out HD.out).mono ?_
    rintro e W27 ⟨rfl, hI2, b27⟩
    clear Yr0 Yr1 Yr2 Lr Fr0 Fr1 Fr2
    have Rr := box_step Rr b27
    have B := Lib.hid (bstep B.out b27)
    have I1 := Lib.hid (I1.out.below b27)
    have sb27 := b27.size
    have I2 := Lib.hid hI2
    clear hI2
    have Yr0 := Rr.cell 0 rfl
    have Yr1 := Rr.cell 1 rfl
    have Yr2 := Rr.cell 2 rfl
    have Lr := Rr.lt
    have Fr0 := Rr.frozen 0
    have Fr1 := Rr.frozen 1
    have Fr2 := Rr.frozen 2
    clear b27
    go_wp2_with fail
    refine (l04One_any b cb D _ I2.out).mono ?_
    rintro e W28 ⟨rfl, b28⟩
    clear Yr0 Yr1 Yr2 Lr Fr0 Fr1 Fr2
    have Rr := box_step Rr b28
    have B := Lib.hid (bstep B.out b28)
    have I1 := Lib.hid (I1.out.below b28)
    have I2 := Lib.hid (I2.out.below b28)
    have sb28 := b28.size
    have Yr0 := Rr.cell 0 rfl
    have Yr1 := Rr.cell 1 rfl
    have Yr2 := Rr.cell 2 rfl
    have Lr := Rr.lt
    have Fr0 := Rr.frozen 0
    have Fr1 := Rr.frozen 1
    have Fr2 := Rr.frozen 2
    clear b28
    go_wp2_with fail
    refine (l02Gcd_out a ca N b cb D g _ I1.out I2.out (by omega) (by omega) HG.out).mono ?_
    rintro e W29 ⟨p, c, rfl, hG, b29⟩
    clear Yr0 Yr1 Yr2 Lr Fr0 Fr1 Fr2
    have Rr := box_step Rr b29
    have B := Lib.hid (bstep B.out b29)
    have I1 := Lib.hid (I1.out.below b29)
    have I2 := Lib.hid (I2.out.below b29)
    have sb29 := b29.size
    have G := Lib.hid hG
    clear hG
    have Yr0 := Rr.cell 0 rfl
    have Yr1 := Rr.cell 1 rfl
    have Yr2 := Rr.cell 2 rfl
    have Lr := Rr.lt
    have Fr0 := Rr.frozen 0
    have Fr1 := Rr.frozen 1
    have Fr2 := Rr.frozen 2
    clear b29
    go_wp2_with fail
    refine (l04One_any p c g _ G.out).mono ?_
    rintro e W30 ⟨rfl, b30⟩
    clear Yr0 Yr1 Yr2 Lr Fr0 Fr1 Fr2
    have Rr := box_step Rr b30
    have B := Lib.hid (bstep B.out b30)
    have I1 := Lib.hid (I1.out.below b30)
    have I2 := Lib.hid (I2.out.below b30)
    have G := Lib.hid (G.out.below b30)
    have sb30 := b30.size
    have Yr0 := Rr.cell 0 rfl
    have Yr1 := Rr.cell 1 rfl
    have Yr2 := Rr.cell 2 rfl
    have Lr := Rr.lt
    have Fr0 := Rr.frozen 0
    have Fr1 := Rr.frozen 1
    have Fr2 := Rr.frozen 2
    clear b30
    go_wp2
    refine bodyPost_ret (v := .agg #[.bool false, .slice none 0 0, .slice none 0 0]) (by simp [results, Tryz.results85, go_sem, Yr0, Yr1, Yr2, Lr]) rfl ⟨none, 0, none, 0, rfl, ratzF_end (by first | omega | (simp; done) | (simp; omega)) B.out _ _ _⟩

set_option maxHeartbeats 4000000 in
include ha hn hb hm hx hy hN hD hlN hlD in
theorem l04Low_gn (h0 : D ≠ 0) (h1 : D ≠ 1) (hg : Nat.gcd N D = g) (hlg : (digs g).length ≤ 400000) (hg1 : g ≠ 1) (hg0 : 0 < g) (hX : N / g = X) (hY : D / g = Y) : Calls Tryz.prog 85 #[.bool n, .slice a xs.length ca, .slice b ys.length cb] w (RatRetS w (fitRA n X Y)) := by
  have HA := Lib.hid ha
  have HB := Lib.hid hb
  have HX := Lib.hid hx
  have HY := Lib.hid hy
  have HN := Lib.hid hN
  have HD := Lib.hid hD
  clear ha hb hx hy hN hD
  have hz : (((digs D).length : Int) == 0) = false := beq_eq_false_iff_ne.2 (by have := (digs_len_pos (N := D)).2 (by omega); omega)
  have hD1 : decide (D = 1) = false := decide_eq_false h1
  have hG1 : decide (g = 1) = false := decide_eq_false hg1
  have HGX := Lib.hid hX
  have HGY := Lib.hid hY
  have HG0 := Lib.hid hg0
  have HG := Lib.hid hg
  clear h0 h1 hg hg1 hg0 hX hY
  by_cases k1 : (digs X).length ≤ 24
  · have k1' : decide ((24 : Int) < ((digs X).length : Int)) = false := decide_eq_false (by omega)
    by_cases k2 : (digs Y).length ≤ 24
    · have k2' : decide ((24 : Int) < ((digs Y).length : Int)) = false := decide_eq_false (by omega)
      rw [fitRA_yes k1 k2]
      go_enter Tryz.func85, Tryz.ntmps85
      go_wp2_with fail
      refine (l02Trim_out a ca xs N _ (HA.out.below (ba1 _ _)) (by omega) HX.out HN.out).mono ?_
      rintro e W31 ⟨rfl, hI1, b31⟩
      have Rr := bx1_0 b31
      have B := Lib.hid (bstep (ba1 _ _) b31)
      have sb31 := b31.size
      try simp at sb31
      have I1 := Lib.hid hI1
      clear hI1
      have Yr0 := Rr.cell 0 rfl
      have Yr1 := Rr.cell 1 rfl
      have Yr2 := Rr.cell 2 rfl
      have Lr := Rr.lt
      have Fr0 := Rr.frozen 0
      have Fr1 := Rr.frozen 1
      have Fr2 := Rr.frozen 2
      clear b31
      go_wp2_with fail
      refine (l02Trim_out b cb ys D _ (HB.out.below B.out) (by omega) HY.out HD.out).mono ?_
      rintro e W32 ⟨rfl, hI2, b32⟩
      clear Yr0 Yr1 Yr2 Lr Fr0 Fr1 Fr2
      have Rr := box_step Rr b32
      have B := Lib.hid (bstep B.out b32)
      have I1 := Lib.hid (I1.out.below b32)
      have sb32 := b32.size
      have I2 := Lib.hid hI2
      clear hI2
      have Yr0 := Rr.cell 0 rfl
      have Yr1 := Rr.cell 1 rfl
      have Yr2 := Rr.cell 2 rfl
      have Lr := Rr.lt
      have Fr0 := Rr.frozen 0
      have Fr1 := Rr.frozen 1
      have Fr2 := Rr.frozen 2
      clear b32
      go_wp2_with fail
      refine (l04One_any b cb D _ I2.out).mono ?_
      rintro e W33 ⟨rfl, b33⟩
      clear Yr0 Yr1 Yr2 Lr Fr0 Fr1 Fr2
      have Rr := box_step Rr b33
      have B := Lib.hid (bstep B.out b33)
      have I1 := Lib.hid (I1.out.below b33)
      have I2 := Lib.hid (I2.out.below b33)
      have sb33 := b33.size
      have Yr0 := Rr.cell 0 rfl
      have Yr1 := Rr.cell 1 rfl
      have Yr2 := Rr.cell 2 rfl
      have Lr := Rr.lt
      have Fr0 := Rr.frozen 0
      have Fr1 := Rr.frozen 1
      have Fr2 := Rr.frozen 2
      clear b33
      go_wp2_with fail
      refine (l02Gcd_out a ca N b cb D g _ I1.out I2.out (by omega) (by omega) HG.out).mono ?_
      rintro e W34 ⟨p, c, rfl, hG, b34⟩
      clear Yr0 Yr1 Yr2 Lr Fr0 Fr1 Fr2
      have Rr := box_step Rr b34
      have B := Lib.hid (bstep B.out b34)
      have I1 := Lib.hid (I1.out.below b34)
      have I2 := Lib.hid (I2.out.below b34)
      have sb34 := b34.size
      have G := Lib.hid hG
      clear hG
      have Yr0 := Rr.cell 0 rfl
      have Yr1 := Rr.cell 1 rfl
      have Yr2 := Rr.cell 2 rfl
      have Lr := Rr.lt
      have Fr0 := Rr.frozen 0
      have Fr1 := Rr.frozen 1
      have Fr2 := Rr.frozen 2
      clear b34
      go_wp2_with fail
      refine (l04One_any p c g _ G.out).mono ?_
      rintro e W35 ⟨rfl, b35⟩
      clear Yr0 Yr1 Yr2 Lr Fr0 Fr1 Fr2
      have Rr := box_step Rr b35
      have B := Lib.hid (bstep B.out b35)
      have I1 := Lib.hid (I1.out.below b35)
      have I2 := Lib.hid (I2.out.below b35)
      have G := Lib.hid (G.out.below b35)
      have sb35 := b35.size
      have Yr0 := Rr.cell 0 rfl
      have Yr1 := Rr.cell 1 rfl
      have Yr2 := Rr.cell 2 rfl
      have Lr := Rr.lt
      have Fr0 := Rr.frozen 0
      have Fr1 := Rr.frozen 1
      have Fr2 := Rr.frozen 2
      clear b35
      go_wp2_with fail
      refine (l02Div_out a ca N p c g X _ I1.out G.out (by omega) (by omega) HG0.out HGX.out).mono ?_
      rintro e W36 ⟨p1, c1, v1, rfl, hJ1, b36⟩
      clear Yr0 Yr1 Yr2 Lr Fr0 Fr1 Fr2
      have Rr := box_step Rr b36
      have B := Lib.hid (bstep B.out b36)
      have I1 := Lib.hid (I1.out.below b36)
      have I2 := Lib.hid (I2.out.below b36)
      have G := Lib.hid (G.out.below b36)
      have sb36 := b36.size
      have J1 := Lib.hid hJ1
      clear hJ1
      have Yr0 := Rr.cell 0 rfl
      have Yr1 := Rr.cell 1 rfl
      have Yr2 := Rr.cell 2 rfl
      have Lr := Rr.lt
      have Fr0 := Rr.frozen 0
      have Fr1 := Rr.frozen 1
      have Fr2 := Rr.frozen 2
      clear b36
      go_wp2_with fail
      refine (l02Div_out b cb D p c g Y _ I2.out G.out (by omega) (by omega) HG0.out HGY.out).mono ?_
      rintro e W37 ⟨p2, c2, v2, rfl, hJ2, b37⟩
      clear Yr0 Yr1 Yr2 Lr Fr0 Fr1 Fr2
      have Rr := box_step Rr b37
      have B := Lib.hid (bstep B.out b37)
      have I1 := Lib.hid (I1.out.below b37)
      have I2 := Lib.hid (I2.out.below b37)
      have G := Lib.hid (G.out.below b37)
      have J1 := Lib.hid (J1.out.below b37)
      have sb37 := b37.size
      have J2 := Lib.hid hJ2
      clear hJ2
      have Yr0 := Rr.cell 0 rfl
      have Yr1 := Rr.cell 1 rfl
      have Yr2 := Rr.cell 2 rfl
      have Lr := Rr.lt
      have Fr0 := Rr.frozen 0
      have Fr1 := Rr.frozen 1
      have Fr2 := Rr.frozen 2
      clear b37
      go_wp2_with fail
      refine (l03Make_dig n X p1 c1 _ J1.out (by omega)).mono ?_
      rintro e W38 ⟨p5, c5, rfl, hO, b38⟩
      clear Yr0 Yr1 Yr2 Lr Fr0 Fr1 Fr2
      have Rr := box_step Rr b38
      have B := Lib.hid (bstep B.out b38)
      have I1 := Lib.hid (I1.out.below b38)
      have I2 := Lib.hid (I2.out.below b38)
      have G := Lib.hid (G.out.below b38)
      have J1 := Lib.hid (J1.out.below b38)
      have J2 := Lib.hid (J2.out.below b38)
      have sb38 := b38.size
      have O := Lib.hid hO
      clear hO
      have Yr0 := Rr.cell 0 rfl
      have Yr1 := Rr.cell 1 rfl
      have Yr2 := Rr.cell 2 rfl
      have Lr := Rr.lt
      have Fr0 := Rr.frozen 0
      have Fr1 := Rr.frozen 1
      have Fr2 := Rr.frozen 2
      clear b38
      go_wp2_with (at_builtin; go_must (refine append_ints (own_empty _) ((J2.out).below (ba1 _ _)) (by simp only [List.length_nil]; omega) (by simp) rfl _ _ rfl rfl rfl ?_); intro e W39 hown39 b39; simp only [List.nil_append] at hown39; obtain ⟨p6, c6, rfl, _⟩ := hown39.form; replace b39 := (ba1 _ _).trans b39; clear Yr0 Yr1 Yr2 Lr Fr0 Fr1 Fr2; have Rr := box_step Rr b39; have B := Lib.hid (bstep B.out b39); have I1 := Lib.hid (I1.out.below b39); have I2 := Lib.hid (I2.out.below b39); have G := Lib.hid (G.out.below b39); have J1 := Lib.hid (J1.out.below b39); have J2 := Lib.hid (J2.out.below b39); have O := Lib.hid (O.out.below b39); have sb39 := b39.size; have Q := Lib.hid hown39.toI; clear hown39; have Yr0 := Rr.cell 0 rfl; have Yr1 := Rr.cell 1 rfl; have Yr2 := Rr.cell 2 rfl; have Lr := Rr.lt; have Fr0 := Rr.frozen 0; have Fr1 := Rr.frozen 1; have Fr2 := Rr.frozen 2; clear b39)
      go_wp2
      refine bodyPost_ret (v := .agg #[.bool (mkBI n (digs X)).neg, .slice p5 (digs X).length c5, .slice p6 (digs Y).length c6]) (by simp [results, Tryz.results85, go_sem, Yr0, Yr1, Yr2, Lr]) rfl ⟨p5, c5, p6, c6, rfl, ratF_end (by first | omega | (simp; done) | (simp; omega)) (by first | omega | (simp; done) | (simp; omega)) (TwoF.of O.out.fr Q.out.fr (Nat.le_refl _) (by first | omega | (simp; done) | (simp; omega))) B.out _ _ _⟩
    · have k2' : decide ((24 : Int) < ((digs Y).length : Int)) = true := decide_eq_true (by omega)
      rw [fitRA_no2 k2]
      go_enter Tryz.func85, Tryz.ntmps85
      go_wp2_with fail
      refine (l02Trim_out a ca xs N _ (HA.out.below (ba1 _ _)) (by omega) HX.out HN.out).mono ?_
      rintro e W40 ⟨rfl, hI1, b40⟩
      have Rr := bx1_0 b40
      have B := Lib.hid (bstep (ba1 _ _) b40)
      have sb40 := b40.size
      try simp at sb40
      have I1 := Lib.hid hI1
      clear hI1
      have Yr0 := Rr.cell 0 rfl
      have Yr1 := Rr.cell 1 rfl
      have Yr2 := Rr.cell 2 rfl
      have Lr := Rr.lt
      have Fr0 := Rr.frozen 0
      have Fr1 := Rr.frozen 1
      have Fr2 := Rr.frozen 2
      clear b40
      go_wp2_with fail
      refine (l02Trim_out b cb ys D _ (HB.out.below B.out) (by omega) HY.out HD.out).mono ?_
      rintro e W41 ⟨rfl, hI2, b41⟩
      clear Yr0 Yr1 Yr2 Lr Fr0 Fr1 Fr2
      have Rr := box_step Rr b41
      have B := Lib.hid (bstep B.out b41)
      have I1 := Lib.hid (I1.out.below b41)
      have sb41 := b41.size
      have I2 := Lib.hid hI2
      clear hI2
      have Yr0 := Rr.cell 0 rfl
      have Yr1 := Rr.cell 1 rfl
      have Yr2 := Rr.cell 2 rfl
      have Lr := Rr.lt
      have Fr0 := Rr.frozen 0
      have Fr1 := Rr.frozen 1
      have Fr2 := Rr.frozen 2
      clear b41
      go_wp2_with fail
      refine (l04One_any b cb D _ I2.out).mono ?_
      rintro e W42 ⟨rfl, b42⟩
      clear Yr0 Yr1 Yr2 Lr Fr0 Fr1 Fr2
      have Rr := box_step Rr b42
      have B := Lib.hid (bstep B.out b42)
      have I1 := Lib.hid (I1.out.below b42)
      have I2 := Lib.hid (I2.out.below b42)
      have sb42 := b42.size
      have Yr0 := Rr.cell 0 rfl
      have Yr1 := Rr.cell 1 rfl
      have Yr2 := Rr.cell 2 rfl
      have Lr := Rr.lt
      have Fr0 := Rr.frozen 0
      have Fr1 := Rr.frozen 1
      have Fr2 := Rr.frozen 2
      clear b42
      go_wp2_with fail
      refine (l02Gcd_out a ca N b cb D g _ I1.out I2.out (by omega) (by omega) HG.out).mono ?_
      rintro e W43 ⟨p, c, rfl, hG, b43⟩
      clear Yr0 Yr1 Yr2 Lr Fr0 Fr1 Fr2
      have Rr := box_step Rr b43
      have B := Lib.hid (bstep B.out b43)
      have I1 := Lib.hid (I1.out.below b43)
      have I2 := Lib.hid (I2.out.below b43)
      have sb43 := b43.size
      have G := Lib.hid hG
      clear hG
      have Yr0 := Rr.cell 0 rfl
      have Yr1 := Rr.cell 1 rfl
      have Yr2 := Rr.cell 2 rfl
      have Lr := Rr.lt
      have Fr0 := Rr.frozen 0
      have Fr1 := Rr.frozen 1
      have Fr2 := Rr.frozen 2
      clear b43
      go_wp2_with fail
      refine (l04One_any p c g _ G.out).mono ?_
      rintro e W44 ⟨rfl, b44⟩
      clear Yr0 Yr1 Yr2 Lr Fr0 Fr1 Fr2
      have Rr := box_step Rr b44
      have B := Lib.hid (bstep B.out b44)
      have I1 := Lib.hid (I1.out.below b44)
      have I2 := Lib.hid (I2.out.below b44)
      have G := Lib.hid (G.out.below b44)
      have sb44 := b44.size
      have Yr0 := Rr.cell 0 rfl
      have Yr1 := Rr.cell 1 rfl
      have Yr2 := Rr.cell 2 rfl
      have Lr := Rr.lt
      have Fr0 := Rr.frozen 0
      have Fr1 := Rr.frozen 1
      have Fr2 := Rr.frozen 2
      clear b44
      go_wp2_with fail
      refine (l02Div_out a ca N p c g X _ I1.out G.out (by omega) (by omega) HG0.out HGX.out).mono ?_
      rintro e W45 ⟨p1, c1, v1, rfl, hJ1, b45⟩
      clear Yr0 Yr1 Yr2 Lr Fr0 Fr1 Fr2
      have Rr := box_step Rr b45
      have B := Lib.hid (bstep B.out b45)
      have I1 := Lib.hid (I1.out.below b45)
      have I2 := Lib.hid (I2.out.below b45)
      have G := Lib.hid (G.out.below b45)
      have sb45 := b45.size
      have J1 := Lib.hid hJ1
      clear hJ1
      have Yr0 := Rr.cell 0 rfl
      have Yr1 := Rr.cell 1 rfl
      have Yr2 := Rr.cell 2 rfl
      have Lr := Rr.lt
      have Fr0 := Rr.frozen 0
      have Fr1 := Rr.frozen 1
      have Fr2 := Rr.frozen 2
      clear b45
      go_wp2_with fail
      refine (l02Div_out b cb D p c g Y _ I2.out G.out (by omega) (by omega) HG0.out HGY.out).mono ?_
      rintro e W46 ⟨p2, c2, v2, rfl, hJ2, b46⟩
      clear Yr0 Yr1 Yr2 Lr Fr0 Fr1 Fr2
      have Rr := box_step Rr b46
      have B := Lib.hid (bstep B.out b46)
      have I1 := Lib.hid (I1.out.below b46)
      have I2 := Lib.hid (I2.out.below b46)
      have G := Lib.hid (G.out.below b46)
      have J1 := Lib.hid (J1.out.below b46)
      have sb46 := b46.size
      have J2 := Lib.hid hJ2
      clear hJ2
      have Yr0 := Rr.cell 0 rfl
      have Yr1 := Rr.cell 1 rfl
      have Yr2 := Rr.cell 2 rfl
      have Lr := Rr.lt
      have Fr0 := Rr.frozen 0
      have Fr1 := Rr.frozen 1
      have Fr2 := Rr.frozen 2
      clear b46
      go_wp2
      refine bodyPost_ret (v := .agg #[.bool false, .slice none 0 0, .slice none 0 0]) (by simp [results, Tryz.results85, go_sem, Yr0, Yr1, Yr2, Lr]) rfl ⟨none, 0, none, 0, rfl, ratzF_end (by first | omega | (simp; done) | (simp; omega)) B.out _ _ _⟩
  · have k1' : decide ((24 : Int) < ((digs X).length : Int)) = true := decide_eq_true (by omega)
    rw [fitRA_no1 k1]
    go_enter Tryz.func85, Tryz.ntmps85
    go_wp2_with fail
    refine (l02Trim_out a ca xs N _ (HA.out.below (ba1 _ _)) (by omega) HX.out HN.out).mono ?_
    rintro e W47 ⟨rfl, hI1, b47⟩
    have Rr := bx1_0 b47
    have B := Lib.hid (bstep (ba1 _ _) b47)
    have sb47 := b47.size
    try simp at sb47
    have I1 := Lib.hid hI1
    clear hI1
    have Yr0 := Rr.cell 0 rfl
    have Yr1 := Rr.cell 1 rfl
    have Yr2 := Rr.cell 2 rfl
    have Lr := Rr.lt
    have Fr0 := Rr.frozen 0
    have Fr1 := Rr.frozen 1
    have Fr2 := Rr.frozen 2
    clear b47
    go_wp2_with fail
    refine (l02Trim_out b cb ys D _ (HB.out.below B.out) (by omega) HY.out HD.out).mono ?_
    rintro e W48 ⟨rfl, hI2, b48⟩
    clear Yr0 Yr1 Yr2 Lr Fr0 Fr1 Fr2
    have Rr := box_step Rr b48
    have B := Lib.hid (bstep B.out b48)
    have I1 := Lib.hid (I1.out.below b48)
    have sb48 := b48.size
    have I2 := Lib.hid hI2
    clear hI2
    have Yr0 := Rr.cell 0 rfl
    have Yr1 := Rr.cell 1 rfl
    have Yr2 := Rr.cell 2 rfl
    have Lr := Rr.lt
    have Fr0 := Rr.frozen 0
    have Fr1 := Rr.frozen 1
    have Fr2 := Rr.frozen 2
    clear b48
    go_wp2_with fail
    refine (l04One_any b cb D _ I2.out).mono ?_
    rintro e W49 ⟨rfl, b49⟩
    clear Yr0 Yr1 Yr2 Lr Fr0 Fr1 Fr2
    have Rr := box_step Rr b49
    have B := Lib.hid (bstep B.out b49)
    have I1 := Lib.hid (I1.out.below b49)
    have I2 := Lib.hid (I2.out.below b49)
    have sb49 := b49.size
    have Yr0 := Rr.cell 0 rfl
    have Yr1 := Rr.cell 1 rfl
    have Yr2 := Rr.cell 2 rfl
    have Lr := Rr.lt
    have Fr0 := Rr.frozen 0
    have Fr1 := Rr.frozen 1
    have Fr2 := Rr.frozen 2
    clear b49
    go_wp2_with fail
    refine (l02Gcd_out a ca N b cb D g _ I1.out I2.out (by omega) (by omega) HG.out).mono ?_
    rintro e W50 ⟨p, c, rfl, hG, b50⟩
    clear Yr0 Yr1 Yr2 Lr Fr0 Fr1 Fr2
    have Rr := box_step Rr b50
    have B := Lib.hid (bstep B.out b50)
    have I1 := Lib.hid (I1.out.below b50)
    have I2 := Lib.hid (I2.out.below b50)
    have sb50 := b50.size
    have G := Lib.hid hG
    clear hG
    have Yr0 := Rr.cell 0 rfl
    have Yr1 := Rr.cell 1 rfl
    have Yr2 := Rr.cell 2 rfl
    have Lr := Rr.lt
    have Fr0 := Rr.frozen 0
    have Fr1 := Rr.frozen 1
    have Fr2 := Rr.frozen 2
    clear b50
    go_wp2_with fail
    refine (l04One_any p c g _ G.out).mono ?_
    rintro e W51 ⟨rfl, b51⟩
    clear Yr0 Yr1 Yr2 Lr Fr0 Fr1 Fr2
    have Rr := box_step Rr b51
    have B := Lib.hid (bstep B.out b51)
    have I1 := Lib.hid (I1.out.below b51)
    have I2 := Lib.hid (I2.out.below b51)
    have G := Lib.hid (G.out.below b51)
    have sb51 := b51.size
    have Yr0 := Rr.cell 0 rfl
    have Yr1 := Rr.cell 1 rfl
    have Yr2 := Rr.cell 2 rfl
    have Lr := Rr.lt
    have Fr0 := Rr.frozen 0
    have Fr1 := Rr.frozen 1
    have Fr2 := Rr.frozen 2
    clear b51
    go_wp2_with fail
    refine (l02Div_out a ca N p c g X _ I1.out G.out (by omega) (by omega) HG0.out HGX.out).mono ?_
    rintro e W52 ⟨p1, c1, v1, rfl, hJ1, b52⟩
    clear Yr0 Yr1 Yr2 Lr Fr0 Fr1 Fr2
    have Rr := box_step Rr b52
    have B := Lib.hid (bstep B.out b52)
    have I1 := Lib.hid (I1.out.below b52)
    have I2 := Lib.hid (I2.out.below b52)
    have G := Lib.hid (G.out.below b52)
    have sb52 := b52.size
    have J1 := Lib.hid hJ1
    clear hJ1
    have Yr0 := Rr.cell 0 rfl
    have Yr1 := Rr.cell 1 rfl
    have Yr2 := Rr.cell 2 rfl
    have Lr := Rr.lt
    have Fr0 := Rr.frozen 0
    have Fr1 := Rr.frozen 1
    have Fr2 := Rr.frozen 2
    clear b52
    go_wp2_with fail
    refine (l02Div_out b cb D p c g Y _ I2.out G.out (by omega) (by omega) HG0.out HGY.out).mono ?_
    rintro e W53 ⟨p2, c2, v2, rfl, hJ2, b53⟩
    clear Yr0 Yr1 Yr2 Lr Fr0 Fr1 Fr2
    have Rr := box_step Rr b53
    have B := Lib.hid (bstep B.out b53)
    have I1 := Lib.hid (I1.out.below b53)
    have I2 := Lib.hid (I2.out.below b53)
    have G := Lib.hid (G.out.below b53)
    have J1 := Lib.hid (J1.out.below b53)
    have sb53 := b53.size
    have J2 := Lib.hid hJ2
    clear hJ2
    have Yr0 := Rr.cell 0 rfl
    have Yr1 := Rr.cell 1 rfl
    have Yr2 := Rr.cell 2 rfl
    have Lr := Rr.lt
    have Fr0 := Rr.frozen 0
    have Fr1 := Rr.frozen 1
    have Fr2 := Rr.frozen 2
    clear b53
    go_wp2
    refine bodyPost_ret (v := .agg #[.bool false, .slice none 0 0, .slice none 0 0]) (by simp [results, Tryz.results85, go_sem, Yr0, Yr1, Yr2, Lr]) rfl ⟨none, 0, none, 0, rfl, ratzF_end (by first | omega | (simp; done) | (simp; omega)) B.out _ _ _⟩

include ha hn hb hm hx hy in
theorem l04Low_any : Calls Tryz.prog 85 #[.bool n, .slice a xs.length ca, .slice b ys.length cb] w (RatRetS w (mkRA n (val xs) (val ys))) := by
  have l1 : (digs (val xs)).length ≤ 400000 := Nat.le_trans (digs_len_le (val_lt hx)) hn
  have l2 : (digs (val ys)).length ≤ 400000 := Nat.le_trans (digs_len_le (val_lt hy)) hm
  by_cases h0 : val ys = 0
  · have e : mkRA n (val xs) (val ys) = zeroRA := by rw [h0]; exact mkRA_zero _ _
    rw [e]
    exact l04Low_zero n a ca xs b cb ys w ha hn hb hm hx hy _ _ rfl rfl h0
  · rw [mkRA_fitRA n h0]
    by_cases h1 : val ys = 1
    · have e : Nat.gcd (val xs) (val ys) = 1 := by rw [h1]; exact Nat.gcd_one_right _
      rw [e, Nat.div_one, Nat.div_one]
      exact l04Low_one n a ca xs b cb ys w ha hn hb hm hx hy _ _ _ _ rfl rfl l1 l2 h1 rfl rfl
    · by_cases h2 : Nat.gcd (val xs) (val ys) = 1
      · have H := l04Low_g1 n a ca xs b cb ys w ha hn hb hm hx hy _ _ 1 _ _ rfl rfl l1 l2 h0 h1 h2 rfl rfl rfl
        rw [h2, Nat.div_one, Nat.div_one]
        exact H
      · have hg : Nat.gcd (val xs) (val ys) ≤ val ys := Nat.le_of_dvd (by omega) (Nat.gcd_dvd_right _ _)
        exact l04Low_gn n a ca xs b cb ys w ha hn hb hm hx hy _ _ _ _ _ rfl rfl l1 l2 h0 h1 rfl (digs_len_le (Nat.lt_of_le_of_lt hg (digs_lt_pw l2))) h2 (Nat.gcd_pos_of_pos_right _ (by omega)) rfl rfl
end
end Go.Proofs.YtehhpkeabckdaaaGreatDoor
