/- BigIntMul whole. -/
import Derived.Test.YtcbamiablkbeoaaBigLaw
namespace Go.Proofs.Ytcbamiablkbeoaa
set_option linter.unusedVariables false
set_option linter.unusedSimpArgs false
open Go.RowKit
section
variable (n : Bool) (a : Option Addr) (ca : Nat) (xs : List Int) (m : Bool) (b : Option Addr) (cb : Nat) (ys : List Int) (w : World) (ha : IntsAt w a ca xs) (hn : xs.length ≤ 1048576) (hb : IntsAt w b cb ys) (hm : ys.length ≤ 1048576)
include ha hn hb hm
set_option maxHeartbeats 2000000 in
theorem specBigIntMul_own : Calls Try.prog 38 #[.agg #[.bool n, .slice a xs.length ca], .agg #[.bool m, .slice b ys.length cb]] w fun e w' => ∃ p c', e = .returned (.agg #[.bool (bigMulI n xs m ys).neg, .slice p (bigMulI n xs m ys).mag.length c']) ∧
    OwnI w' w.heap.size w'.heap.size (.slice p (bigMulI n xs m ys).mag.length c') (bigMulI n xs m ys).mag ∧ Below w.heap.size w w' := by
  have HA := Lib.hid ha
  have HB := Lib.hid hb
  clear ha hb
  by_cases h1 : bigOkB n xs = true
  · by_cases h2 : bigOkB m ys = true
    · rw [bigMulI_yes h1 h2]
      have HL := Lib.hid (ok_len (bigOk_nat h1))
      have HM := Lib.hid (ok_len (bigOk_nat h2))
      have HX := Lib.hid (ok_rng (bigOk_nat h1))
      have HY := Lib.hid (ok_rng (bigOk_nat h2))
      have e : capI (toI n xs * toI m ys) = mkBI (n != m) (capD (val (digs (val xs * val ys)))) := by rw [val_digs, mkBI_cap, toI_mul]
      rw [e]
      have HD := Lib.hid (mul_len (bigOk_nat h1) (bigOk_nat h2))
      clear e
      go_enter Try.func38, Try.ntmps38
      go_wp2_with fail
      refine (specBigIntOk_any n a ca xs _ (HA.out.below (ba3 _ _ _ _)) hn).mono ?_
      rintro e W1 ⟨rfl, b1⟩
      have Rx := bx3_0 b1
      have Ry := bx3_1 b1
      have Rr := bx3_2 b1
      have B := Lib.hid (bstep (ba3 _ _ _ _) b1)
      have sb1 := b1.size
      try simp at sb1
      have Yx0 := Rx.cell 0 rfl
      have Yx1 := Rx.cell 1 rfl
      have Lx := Rx.lt
      have Yy0 := Ry.cell 0 rfl
      have Yy1 := Ry.cell 1 rfl
      have Ly := Ry.lt
      have Yr0 := Rr.cell 0 rfl
      have Yr1 := Rr.cell 1 rfl
      have Lr := Rr.lt
      have Fr0 := Rr.frozen 0
      have Fr1 := Rr.frozen 1
      clear b1
      go_wp2_with fail
      refine (specBigIntOk_any m b cb ys _ (HB.out.below B.out) hm).mono ?_
      rintro e W2 ⟨rfl, b2⟩
      clear Yx0 Yx1 Lx Yy0 Yy1 Ly Yr0 Yr1 Lr Fr0 Fr1
      have Rx := box_step Rx b2
      have Ry := box_step Ry b2
      have Rr := box_step Rr b2
      have B := Lib.hid (bstep B.out b2)
      have sb2 := b2.size
      have Yx0 := Rx.cell 0 rfl
      have Yx1 := Rx.cell 1 rfl
      have Lx := Rx.lt
      have Yy0 := Ry.cell 0 rfl
      have Yy1 := Ry.cell 1 rfl
      have Ly := Ry.lt
      have Yr0 := Rr.cell 0 rfl
      have Yr1 := Rr.cell 1 rfl
      have Lr := Rr.lt
      have Fr0 := Rr.frozen 0
      have Fr1 := Rr.frozen 1
      clear b2
      go_wp2_with fail
      go_region_held3 (fun w' => w'.cell? ⟨w.heap.size, 0, none⟩ = some (.bool n) ∧ w'.cell? ⟨w.heap.size, 1, none⟩ = some (.slice a xs.length ca) ∧ w'.cell? ⟨w.heap.size + 1, 0, none⟩ = some (.bool m) ∧ w'.cell? ⟨w.heap.size + 1, 1, none⟩ = some (.slice b ys.length cb))
        ((first | exact ⟨Yx0, Yx1, Yy0, Yy1⟩ | exact ⟨cell_stepD Yx0 b3, cell_stepD Yx1 b3, cell_stepD Yy0 b3, cell_stepD Yy1 b3⟩ | exact ⟨cell_step (cell_stepD Yx0 b3) b4, cell_step (cell_stepD Yx1 b3) b4, cell_step (cell_stepD Yy0 b3) b4, cell_step (cell_stepD Yy1 b3) b4⟩ | exact ⟨cell_low (cell_low (cell_step (cell_stepD Yx0 b3) b4) (by first | (simp; done) | (simp; omega) | omega)) (by first | (simp; done) | (simp; omega) | omega), cell_low (cell_low (cell_step (cell_stepD Yx1 b3) b4) (by first | (simp; done) | (simp; omega) | omega)) (by first | (simp; done) | (simp; omega) | omega), cell_low (cell_low (cell_step (cell_stepD Yy0 b3) b4) (by first | (simp; done) | (simp; omega) | omega)) (by first | (simp; done) | (simp; omega) | omega), cell_low (cell_low (cell_step (cell_stepD Yy1 b3) b4) (by first | (simp; done) | (simp; omega) | omega)) (by first | (simp; done) | (simp; omega) | omega)⟩))
        (first | (go_at_call 66; refine (own_out (l02Mul_own a ca xs b cb ys _ (HA.out.below (B.out.drew)) (HB.out.below (B.out.drew)) (by have := HL.out; omega) (by have := HM.out; omega) HX.out HY.out)).mono ?_; rintro e W3 ⟨p, c', rfl, hO, b3⟩) | (go_at_call 65; refine (l03Make_any (n != m) p c' _ _ hO.ints HD.out (digs_rng _)).mono ?_; rintro e W4 ⟨p2, c2, rfl, hQ, b4⟩; have Rr := (box_step (box_step (box_drew Rr) b3) b4); have Yr0 := Rr.cell 0 rfl; have Fr0 := Rr.frozen 0; have Yr1 := Rr.cell 1 rfl; have Fr1 := Rr.frozen 1; have Lr := Rr.lt))
      have sb3 := b3.size
      try simp at sb3
      have sb4 := b4.size
      have O := Lib.hid ((hO.below b4))
      clear hO
      have Q := Lib.hid (hQ)
      clear hQ
      have B := Lib.hid (bstep (bstepD B.out b3) b4)
      clear b3 b4
      go_wp2
      refine bodyPost_ret (v := .agg #[.bool (mkBI (n != m) (capD (val (digs (val xs * val ys))))).neg, .slice p2 (capD (val (digs (val xs * val ys)))).length c2]) (by simp [results, Try.results38, go_sem, Yr0, Yr1, Lr]) rfl ⟨p2, c2, rfl, big_endR (by first | omega | (simp; done) | (simp; omega)) (by first | omega | (simp; done) | (simp; omega)) Q.out (by first | omega | (simp; done) | (simp; omega)) B.out _ _⟩
    · have h2' := Bool.eq_false_iff.2 h2
      rw [bigMulI_no2 h2']
      dsimp only [List.length_nil]
      go_enter Try.func38, Try.ntmps38
      go_wp2_with fail
      refine (specBigIntOk_any n a ca xs _ (HA.out.below (ba3 _ _ _ _)) hn).mono ?_
      rintro e W5 ⟨rfl, b5⟩
      have Rx := bx3_0 b5
      have Ry := bx3_1 b5
      have Rr := bx3_2 b5
      have B := Lib.hid (bstep (ba3 _ _ _ _) b5)
      have sb5 := b5.size
      try simp at sb5
      have Yx0 := Rx.cell 0 rfl
      have Yx1 := Rx.cell 1 rfl
      have Lx := Rx.lt
      have Yy0 := Ry.cell 0 rfl
      have Yy1 := Ry.cell 1 rfl
      have Ly := Ry.lt
      have Yr0 := Rr.cell 0 rfl
      have Yr1 := Rr.cell 1 rfl
      have Lr := Rr.lt
      have Fr0 := Rr.frozen 0
      have Fr1 := Rr.frozen 1
      clear b5
      go_wp2_with fail
      refine (specBigIntOk_any m b cb ys _ (HB.out.below B.out) hm).mono ?_
      rintro e W6 ⟨rfl, b6⟩
      clear Yx0 Yx1 Lx Yy0 Yy1 Ly Yr0 Yr1 Lr Fr0 Fr1
      have Rx := box_step Rx b6
      have Ry := box_step Ry b6
      have Rr := box_step Rr b6
      have B := Lib.hid (bstep B.out b6)
      have sb6 := b6.size
      have Yx0 := Rx.cell 0 rfl
      have Yx1 := Rx.cell 1 rfl
      have Lx := Rx.lt
      have Yy0 := Ry.cell 0 rfl
      have Yy1 := Ry.cell 1 rfl
      have Ly := Ry.lt
      have Yr0 := Rr.cell 0 rfl
      have Yr1 := Rr.cell 1 rfl
      have Lr := Rr.lt
      have Fr0 := Rr.frozen 0
      have Fr1 := Rr.frozen 1
      clear b6
      go_wp2
      refine bodyPost_ret (v := .agg #[.bool false, .slice none 0 0]) (by simp [results, Try.results38, go_sem, Yr0, Yr1, Lr]) rfl ⟨none, 0, rfl, zero_endR (by first | omega | (simp; done) | (simp; omega)) B.out _ _⟩
  · have h1' := Bool.eq_false_iff.2 h1
    rw [bigMulI_no1 h1']
    dsimp only [List.length_nil]
    go_enter Try.func38, Try.ntmps38
    go_wp2_with fail
    refine (specBigIntOk_any n a ca xs _ (HA.out.below (ba3 _ _ _ _)) hn).mono ?_
    rintro e W7 ⟨rfl, b7⟩
    have Rx := bx3_0 b7
    have Ry := bx3_1 b7
    have Rr := bx3_2 b7
    have B := Lib.hid (bstep (ba3 _ _ _ _) b7)
    have sb7 := b7.size
    try simp at sb7
    have Yx0 := Rx.cell 0 rfl
    have Yx1 := Rx.cell 1 rfl
    have Lx := Rx.lt
    have Yy0 := Ry.cell 0 rfl
    have Yy1 := Ry.cell 1 rfl
    have Ly := Ry.lt
    have Yr0 := Rr.cell 0 rfl
    have Yr1 := Rr.cell 1 rfl
    have Lr := Rr.lt
    have Fr0 := Rr.frozen 0
    have Fr1 := Rr.frozen 1
    clear b7
    go_wp2
    refine bodyPost_ret (v := .agg #[.bool false, .slice none 0 0]) (by simp [results, Try.results38, go_sem, Yr0, Yr1, Lr]) rfl ⟨none, 0, rfl, zero_endR (by first | omega | (simp; done) | (simp; omega)) B.out _ _⟩
theorem specBigIntMul_any : Calls Try.prog 38 #[.agg #[.bool n, .slice a xs.length ca], .agg #[.bool m, .slice b ys.length cb]] w fun e w' => ∃ p c', e = .returned (.agg #[.bool (bigMulI n xs m ys).neg, .slice p (bigMulI n xs m ys).mag.length c']) ∧
    IntsAt w' p c' (bigMulI n xs m ys).mag ∧ Below w.heap.size w w' :=
  (specBigIntMul_own n a ca xs m b cb ys w ha hn hb hm).mono fun _ _ ⟨p, c', h1, h2, h3⟩ => ⟨p, c', h1, h2.ints, h3⟩
set_option maxHeartbeats 2000000 in
theorem implBigIntMul_own : Calls Try.prog 39 #[.agg #[.bool n, .slice a xs.length ca], .agg #[.bool m, .slice b ys.length cb]] w fun e w' => ∃ p c', e = .returned (.agg #[.bool (bigMulI n xs m ys).neg, .slice p (bigMulI n xs m ys).mag.length c']) ∧
    OwnI w' w.heap.size w'.heap.size (.slice p (bigMulI n xs m ys).mag.length c') (bigMulI n xs m ys).mag ∧ Below w.heap.size w w' := by
  have HA := Lib.hid ha
  have HB := Lib.hid hb
  clear ha hb
  by_cases h1 : bigOkB n xs = true
  · by_cases h2 : bigOkB m ys = true
    · rw [bigMulI_yes h1 h2]
      have HL := Lib.hid (ok_len (bigOk_nat h1))
      have HM := Lib.hid (ok_len (bigOk_nat h2))
      have HX := Lib.hid (ok_rng (bigOk_nat h1))
      have HY := Lib.hid (ok_rng (bigOk_nat h2))
      go_enter Try.func39, Try.ntmps39
      go_wp2_with fail
      refine (implBigIntOk_any n a ca xs _ (HA.out.below (ba3 _ _ _ _)) hn).mono ?_
      rintro e W8 ⟨rfl, b8⟩
      have Rx := bx3_0 b8
      have Ry := bx3_1 b8
      have Rr := bx3_2 b8
      have B := Lib.hid (bstep (ba3 _ _ _ _) b8)
      have sb8 := b8.size
      try simp at sb8
      have Yx0 := Rx.cell 0 rfl
      have Yx1 := Rx.cell 1 rfl
      have Lx := Rx.lt
      have Yy0 := Ry.cell 0 rfl
      have Yy1 := Ry.cell 1 rfl
      have Ly := Ry.lt
      have Yr0 := Rr.cell 0 rfl
      have Yr1 := Rr.cell 1 rfl
      have Lr := Rr.lt
      have Fr0 := Rr.frozen 0
      have Fr1 := Rr.frozen 1
      clear b8
      go_wp2_with fail
      refine (implBigIntOk_any m b cb ys _ (HB.out.below B.out) hm).mono ?_
      rintro e W9 ⟨rfl, b9⟩
      clear Yx0 Yx1 Lx Yy0 Yy1 Ly Yr0 Yr1 Lr Fr0 Fr1
      have Rx := box_step Rx b9
      have Ry := box_step Ry b9
      have Rr := box_step Rr b9
      have B := Lib.hid (bstep B.out b9)
      have sb9 := b9.size
      have Yx0 := Rx.cell 0 rfl
      have Yx1 := Rx.cell 1 rfl
      have Lx := Rx.lt
      have Yy0 := Ry.cell 0 rfl
      have Yy1 := Ry.cell 1 rfl
      have Ly := Ry.lt
      have Yr0 := Rr.cell 0 rfl
      have Yr1 := Rr.cell 1 rfl
      have Lr := Rr.lt
      have Fr0 := Rr.frozen 0
      have Fr1 := Rr.frozen 1
      clear b9
      go_wp2_with fail
      refine (bigMul_int n a ca xs m b cb ys _ (HA.out.below B.out) (by have := HL.out; omega) (HB.out.below B.out) (by have := HM.out; omega) HX.out HY.out).mono ?_
      rintro e W10 ⟨p, c', rfl, hO, b10⟩
      clear Yx0 Yx1 Lx Yy0 Yy1 Ly Yr0 Yr1 Lr Fr0 Fr1
      have Rx := box_step Rx b10
      have Ry := box_step Ry b10
      have Rr := box_step Rr b10
      have B := Lib.hid (bstep B.out b10)
      have sb10 := b10.size
      have O := Lib.hid hO
      clear hO
      have Yx0 := Rx.cell 0 rfl
      have Yx1 := Rx.cell 1 rfl
      have Lx := Rx.lt
      have Yy0 := Ry.cell 0 rfl
      have Yy1 := Ry.cell 1 rfl
      have Ly := Ry.lt
      have Yr0 := Rr.cell 0 rfl
      have Yr1 := Rr.cell 1 rfl
      have Lr := Rr.lt
      have Fr0 := Rr.frozen 0
      have Fr1 := Rr.frozen 1
      clear b10
      go_wp2_with fail
      refine (ifBigInt_any _ p c' _).mono ?_
      rintro e W11 ⟨p2, c2, rfl, hcap, b11⟩
      clear Yx0 Yx1 Lx Yy0 Yy1 Ly Yr0 Yr1 Lr Fr0 Fr1
      have Rx := box_step Rx b11
      have Ry := box_step Ry b11
      have Rr := box_step Rr b11
      have B := Lib.hid (bstep B.out b11)
      have O := Lib.hid (O.out.below b11)
      have sb11 := b11.size
      have Yx0 := Rx.cell 0 rfl
      have Yx1 := Rx.cell 1 rfl
      have Lx := Rx.lt
      have Yy0 := Ry.cell 0 rfl
      have Yy1 := Ry.cell 1 rfl
      have Ly := Ry.lt
      have Yr0 := Rr.cell 0 rfl
      have Yr1 := Rr.cell 1 rfl
      have Lr := Rr.lt
      have Fr0 := Rr.frozen 0
      have Fr1 := Rr.frozen 1
      clear b11
      have Q := Lib.hid (hcap _ _ _ O.out)
      clear hcap
      go_wp2
      refine bodyPost_ret (v := .agg #[.bool (capI (toI n xs * toI m ys)).neg, .slice p2 (capI (toI n xs * toI m ys)).mag.length c2]) (by simp [results, Try.results39, go_sem, Yr0, Yr1, Lr]) rfl ⟨p2, c2, rfl, big_endR (by first | omega | (simp; done) | (simp; omega)) (by first | omega | (simp; done) | (simp; omega)) Q.out (by first | omega | (simp; done) | (simp; omega)) B.out _ _⟩
    · have h2' := Bool.eq_false_iff.2 h2
      rw [bigMulI_no2 h2']
      dsimp only [List.length_nil]
      go_enter Try.func39, Try.ntmps39
      go_wp2_with fail
      refine (implBigIntOk_any n a ca xs _ (HA.out.below (ba3 _ _ _ _)) hn).mono ?_
      rintro e W12 ⟨rfl, b12⟩
      have Rx := bx3_0 b12
      have Ry := bx3_1 b12
      have Rr := bx3_2 b12
      have B := Lib.hid (bstep (ba3 _ _ _ _) b12)
      have sb12 := b12.size
      try simp at sb12
      have Yx0 := Rx.cell 0 rfl
      have Yx1 := Rx.cell 1 rfl
      have Lx := Rx.lt
      have Yy0 := Ry.cell 0 rfl
      have Yy1 := Ry.cell 1 rfl
      have Ly := Ry.lt
      have Yr0 := Rr.cell 0 rfl
      have Yr1 := Rr.cell 1 rfl
      have Lr := Rr.lt
      have Fr0 := Rr.frozen 0
      have Fr1 := Rr.frozen 1
      clear b12
      go_wp2_with fail
      refine (implBigIntOk_any m b cb ys _ (HB.out.below B.out) hm).mono ?_
      rintro e W13 ⟨rfl, b13⟩
      clear Yx0 Yx1 Lx Yy0 Yy1 Ly Yr0 Yr1 Lr Fr0 Fr1
      have Rx := box_step Rx b13
      have Ry := box_step Ry b13
      have Rr := box_step Rr b13
      have B := Lib.hid (bstep B.out b13)
      have sb13 := b13.size
      have Yx0 := Rx.cell 0 rfl
      have Yx1 := Rx.cell 1 rfl
      have Lx := Rx.lt
      have Yy0 := Ry.cell 0 rfl
      have Yy1 := Ry.cell 1 rfl
      have Ly := Ry.lt
      have Yr0 := Rr.cell 0 rfl
      have Yr1 := Rr.cell 1 rfl
      have Lr := Rr.lt
      have Fr0 := Rr.frozen 0
      have Fr1 := Rr.frozen 1
      clear b13
      go_wp2
      refine bodyPost_ret (v := .agg #[.bool false, .slice none 0 0]) (by simp [results, Try.results39, go_sem, Yr0, Yr1, Lr]) rfl ⟨none, 0, rfl, zero_endR (by first | omega | (simp; done) | (simp; omega)) B.out _ _⟩
  · have h1' := Bool.eq_false_iff.2 h1
    rw [bigMulI_no1 h1']
    dsimp only [List.length_nil]
    go_enter Try.func39, Try.ntmps39
    go_wp2_with fail
    refine (implBigIntOk_any n a ca xs _ (HA.out.below (ba3 _ _ _ _)) hn).mono ?_
    rintro e W14 ⟨rfl, b14⟩
    have Rx := bx3_0 b14
    have Ry := bx3_1 b14
    have Rr := bx3_2 b14
    have B := Lib.hid (bstep (ba3 _ _ _ _) b14)
    have sb14 := b14.size
    try simp at sb14
    have Yx0 := Rx.cell 0 rfl
    have Yx1 := Rx.cell 1 rfl
    have Lx := Rx.lt
    have Yy0 := Ry.cell 0 rfl
    have Yy1 := Ry.cell 1 rfl
    have Ly := Ry.lt
    have Yr0 := Rr.cell 0 rfl
    have Yr1 := Rr.cell 1 rfl
    have Lr := Rr.lt
    have Fr0 := Rr.frozen 0
    have Fr1 := Rr.frozen 1
    clear b14
    go_wp2
    refine bodyPost_ret (v := .agg #[.bool false, .slice none 0 0]) (by simp [results, Try.results39, go_sem, Yr0, Yr1, Lr]) rfl ⟨none, 0, rfl, zero_endR (by first | omega | (simp; done) | (simp; omega)) B.out _ _⟩
theorem implBigIntMul_any : Calls Try.prog 39 #[.agg #[.bool n, .slice a xs.length ca], .agg #[.bool m, .slice b ys.length cb]] w fun e w' => ∃ p c', e = .returned (.agg #[.bool (bigMulI n xs m ys).neg, .slice p (bigMulI n xs m ys).mag.length c']) ∧
    OwnI w' w.heap.size w'.heap.size (.slice p (bigMulI n xs m ys).mag.length c') (bigMulI n xs m ys).mag ∧ Below w.heap.size w w' :=
  implBigIntMul_own n a ca xs m b cb ys w ha hn hb hm
end
end Go.Proofs.Ytcbamiablkbeoaa
