/- RatOk: the reference. -/
import Derived.Test.YtjklefkkdaelnaaDoorRatOne
import Derived.Test.YtjklefkkdaelnaaDoorK4
namespace Go.Proofs.YtjklefkkdaelnaaDoor
set_option linter.unusedVariables false
set_option linter.unusedSimpArgs false
open Go.RowKit
theorem specNatOk_b (a : Option Addr) (cap : Nat) (xs : List Int) (w : World) (ha : IntsAt w a cap xs) (hn : xs.length ≤ 1048576) : Calls Tryd.prog 62 #[.slice a xs.length cap] w fun e w' => e = .returned (.bool (natOkB xs)) ∧ Below w.heap.size w w' :=
  (specNatOk_q a cap xs w ha hn).mono fun _ _ h => ⟨h.1, h.2 ▸ Below.refl _ _⟩
section
variable (n : Bool) (a : Option Addr) (ca : Nat) (xs : List Int) (b : Option Addr) (cb : Nat) (ds : List Int) (w : World) (ha : IntsAt w a ca xs) (hn : xs.length ≤ 1048576) (hb : IntsAt w b cb ds) (hm : ds.length ≤ 1048576)
include ha hn hb hm
set_option maxHeartbeats 4000000 in
theorem specRatOk_any : Calls Tryd.prog 101 #[.agg #[.bool n, .slice a xs.length ca, .slice b ds.length cb]] w fun e w' => e = .returned (.bool (ratOkB n xs ds)) ∧ Below w.heap.size w w' := by
  have HA := Lib.hid ha
  have HB := Lib.hid hb
  clear ha hb
  by_cases h1 : bigOkB n xs = true
  · by_cases h2 : natOkB ds = true
    · by_cases h3 : 0 < ds.length
      · have hz : ((ds.length : Int) == 0) = false := beq_eq_false_iff_ne.2 (by omega)
        by_cases h4 : ds.length ≤ 24
        · have hd : decide ((24 : Int) < (ds.length : Int)) = false := decide_eq_false (by omega)
          by_cases h5 : xs.length ≤ 24
          · have hx : decide ((24 : Int) < (xs.length : Int)) = false := decide_eq_false (by omega)
            have e : ratOkB n xs ds = decide (Nat.gcd (val xs) (val ds) = 1) := by unfold ratOkB; simp [h1, h2, h3, h4, h5]
            have HX := Lib.hid (ok_digs (bigOk_nat h1))
            have HY := Lib.hid (ok_digs h2)
            rw [e]
            clear e
            go_enter Tryd.func101, Tryd.ntmps101
            go_wp2_with fail
            refine (specBigIntOk_any n a ca xs _ (HA.out.below (ba1 _ _)) hn).mono ?_
            rintro e W1 ⟨rfl, b1⟩
            have Rx := bx1_0 b1
            have B := Lib.hid (bstep (ba1 _ _) b1)
            have sb1 := b1.size
            try simp at sb1
            have Yx0 := Rx.cell 0 rfl
            have Yx1 := Rx.cell 1 rfl
            have Yx2 := Rx.cell 2 rfl
            have Lx := Rx.lt
            clear b1
            go_wp2_with fail
            refine (specNatOk_b b cb ds _ (HB.out.below B.out) hm).mono ?_
            rintro e W2 ⟨rfl, b2⟩
            clear Yx0 Yx1 Yx2 Lx
            have Rx := box_step Rx b2
            have B := Lib.hid (bstep B.out b2)
            have sb2 := b2.size
            have Yx0 := Rx.cell 0 rfl
            have Yx1 := Rx.cell 1 rfl
            have Yx2 := Rx.cell 2 rfl
            have Lx := Rx.lt
            clear b2
            go_wp2_with fail
            refine (l02Gcd_any a ca xs b cb ds _ (HA.out.below B.out) (HB.out.below B.out) (by omega) (by omega) HX.out HY.out).mono ?_
            rintro e W3 ⟨p, c, rfl, hi, b3⟩
            clear Yx0 Yx1 Yx2 Lx
            have Rx := box_step Rx b3
            have B := Lib.hid (bstep B.out b3)
            have sb3 := b3.size
            have Yx0 := Rx.cell 0 rfl
            have Yx1 := Rx.cell 1 rfl
            have Yx2 := Rx.cell 2 rfl
            have Lx := Rx.lt
            clear b3
            go_wp2_with fail
            refine (l04One_any p c (Nat.gcd (val xs) (val ds)) _ hi).mono ?_
            rintro e W4 ⟨rfl, b4⟩
            clear Yx0 Yx1 Yx2 Lx
            have Rx := box_step Rx b4
            have B := Lib.hid (bstep B.out b4)
            have sb4 := b4.size
            have Yx0 := Rx.cell 0 rfl
            have Yx1 := Rx.cell 1 rfl
            have Yx2 := Rx.cell 2 rfl
            have Lx := Rx.lt
            clear b4
            go_wp2
            go_ret
            exact ⟨rfl, B.out⟩
          · have hx : decide ((24 : Int) < (xs.length : Int)) = true := decide_eq_true (by omega)
            have e : ratOkB n xs ds = false := by unfold ratOkB; simp [h5]
            rw [e]
            clear e
            go_enter Tryd.func101, Tryd.ntmps101
            go_wp2_with fail
            refine (specBigIntOk_any n a ca xs _ (HA.out.below (ba1 _ _)) hn).mono ?_
            rintro e W5 ⟨rfl, b5⟩
            have Rx := bx1_0 b5
            have B := Lib.hid (bstep (ba1 _ _) b5)
            have sb5 := b5.size
            try simp at sb5
            have Yx0 := Rx.cell 0 rfl
            have Yx1 := Rx.cell 1 rfl
            have Yx2 := Rx.cell 2 rfl
            have Lx := Rx.lt
            clear b5
            go_wp2_with fail
            refine (specNatOk_b b cb ds _ (HB.out.below B.out) hm).mono ?_
            rintro e W6 ⟨rfl, b6⟩
            clear Yx0 Yx1 Yx2 Lx
            have Rx := box_step Rx b6
            have B := Lib.hid (bstep B.out b6)
            have sb6 := b6.size
            have Yx0 := Rx.cell 0 rfl
            have Yx1 := Rx.cell 1 rfl
            have Yx2 := Rx.cell 2 rfl
            have Lx := Rx.lt
            clear b6
            go_wp2
            go_ret
            exact ⟨rfl, B.out⟩
        · have hd : decide ((24 : Int) < (ds.length : Int)) = true := decide_eq_true (by omega)
          have e : ratOkB n xs ds = false := by unfold ratOkB; simp [h4]
          rw [e]
          clear e
          go_enter Tryd.func101, Tryd.ntmps101
          go_wp2_with fail
          refine (specBigIntOk_any n a ca xs _ (HA.out.below (ba1 _ _)) hn).mono ?_
          rintro e W7 ⟨rfl, b7⟩
          have Rx := bx1_0 b7
          have B := Lib.hid (bstep (ba1 _ _) b7)
          have sb7 := b7.size
          try simp at sb7
          have Yx0 := Rx.cell 0 rfl
          have Yx1 := Rx.cell 1 rfl
          have Yx2 := Rx.cell 2 rfl
          have Lx := Rx.lt
          clear b7
          go_wp2_with fail
          refine (specNatOk_b b cb ds _ (HB.out.below B.out) hm).mono ?_
          rintro e W8 ⟨rfl, b8⟩
          clear Yx0 Yx1 Yx2 Lx
          have Rx := box_step Rx b8
          have B := Lib.hid (bstep B.out b8)
          have sb8 := b8.size
          have Yx0 := Rx.cell 0 rfl
          have Yx1 := Rx.cell 1 rfl
          have Yx2 := Rx.cell 2 rfl
          have Lx := Rx.lt
          clear b8
          go_wp2
          go_ret
          exact ⟨rfl, B.out⟩
      · have hz : ((ds.length : Int) == 0) = true := beq_iff_eq.2 (by omega)
        have e : ratOkB n xs ds = false := by unfold ratOkB; simp [h3]
        rw [e]
        clear e
        go_enter Tryd.func101, Tryd.ntmps101
        go_wp2_with fail
        refine (specBigIntOk_any n a ca xs _ (HA.out.below (ba1 _ _)) hn).mono ?_
        rintro e W9 ⟨rfl, b9⟩
        have Rx := bx1_0 b9
        have B := Lib.hid (bstep (ba1 _ _) b9)
        have sb9 := b9.size
        try simp at sb9
        have Yx0 := Rx.cell 0 rfl
        have Yx1 := Rx.cell 1 rfl
        have Yx2 := Rx.cell 2 rfl
        have Lx := Rx.lt
        clear b9
        go_wp2_with fail
        refine (specNatOk_b b cb ds _ (HB.out.below B.out) hm).mono ?_
        rintro e W10 ⟨rfl, b10⟩
        clear Yx0 Yx1 Yx2 Lx
        have Rx := box_step Rx b10
        have B := Lib.hid (bstep B.out b10)
        have sb10 := b10.size
        have Yx0 := Rx.cell 0 rfl
        have Yx1 := Rx.cell 1 rfl
        have Yx2 := Rx.cell 2 rfl
        have Lx := Rx.lt
        clear b10
        go_wp2
        go_ret
        exact ⟨rfl, B.out⟩
    · have h2' := Bool.eq_false_iff.2 h2
      have e : ratOkB n xs ds = false := by unfold ratOkB; simp [h2']
      rw [e]
      clear e
      go_enter Tryd.func101, Tryd.ntmps101
      go_wp2_with fail
      refine (specBigIntOk_any n a ca xs _ (HA.out.below (ba1 _ _)) hn).mono ?_
      rintro e W11 ⟨rfl, b11⟩
      have Rx := bx1_0 b11
      have B := Lib.hid (bstep (ba1 _ _) b11)
      have sb11 := b11.size
      try simp at sb11
      have Yx0 := Rx.cell 0 rfl
      have Yx1 := Rx.cell 1 rfl
      have Yx2 := Rx.cell 2 rfl
      have Lx := Rx.lt
      clear b11
      go_wp2_with fail
      refine (specNatOk_b b cb ds _ (HB.out.below B.out) hm).mono ?_
      rintro e W12 ⟨rfl, b12⟩
      clear Yx0 Yx1 Yx2 Lx
      have Rx := box_step Rx b12
      have B := Lib.hid (bstep B.out b12)
      have sb12 := b12.size
      have Yx0 := Rx.cell 0 rfl
      have Yx1 := Rx.cell 1 rfl
      have Yx2 := Rx.cell 2 rfl
      have Lx := Rx.lt
      clear b12
      go_wp2
      go_ret
      exact ⟨rfl, B.out⟩
  · have h1' := Bool.eq_false_iff.2 h1
    have e : ratOkB n xs ds = false := by unfold ratOkB; simp [h1']
    rw [e]
    clear e
    go_enter Tryd.func101, Tryd.ntmps101
    go_wp2_with fail
    refine (specBigIntOk_any n a ca xs _ (HA.out.below (ba1 _ _)) hn).mono ?_
    rintro e W13 ⟨rfl, b13⟩
    have Rx := bx1_0 b13
    have B := Lib.hid (bstep (ba1 _ _) b13)
    have sb13 := b13.size
    try simp at sb13
    have Yx0 := Rx.cell 0 rfl
    have Yx1 := Rx.cell 1 rfl
    have Yx2 := Rx.cell 2 rfl
    have Lx := Rx.lt
    clear b13
    go_wp2
    go_ret
    exact ⟨rfl, B.out⟩
end
end Go.Proofs.YtjklefkkdaelnaaDoor
