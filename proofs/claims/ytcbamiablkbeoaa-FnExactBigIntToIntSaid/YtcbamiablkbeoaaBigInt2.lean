/- BigIntToInt. -/
import Derived.Test.YtcbamiablkbeoaaNatInt2
namespace Go.Proofs.Ytcbamiablkbeoaa
set_option linter.unusedVariables false
set_option linter.unusedSimpArgs false
open Go.RowKit
def bigToB (n : Bool) (xs : List Int) : Bool := natToB xs && bigOkB n xs
def bigToI (n : Bool) (xs : List Int) : Int := if bigToB n xs then (if n then -natToI xs else natToI xs) else 0
theorem natToI_bounds (xs : List Int) : 0 ≤ natToI xs ∧ natToI xs ≤ 9223372036854775807 := by
  unfold natToI
  split
  · rename_i h; unfold natToB at h; simp at h; omega
  · omega
section
variable (n : Bool) (a : Option Addr) (c : Nat) (xs : List Int) (w : World) (ha : IntsAt w a c xs) (hl : xs.length ≤ 1048576)
include ha hl
set_option maxHeartbeats 2000000 in
theorem specBigIntToInt_any : Calls Try.prog 34 #[.agg #[.bool n, .slice a xs.length c]] w fun e w' => e = .returned (.tuple #[.int .i64 (bigToI n xs), .bool (bigToB n xs)]) ∧ Below w.heap.size w w' := by
  have HA := Lib.hid ha
  clear ha
  by_cases h1 : natToB xs = true
  · by_cases h2 : bigOkB n xs = true
    · have hB : bigToB n xs = true := by unfold bigToB; rw [h1, h2]; rfl
      have hI : bigToI n xs = if n then -natToI xs else natToI xs := by unfold bigToI; rw [hB]; rfl
      rw [hB, hI]
      clear hB hI
      have hb := natToI_bounds xs
      obtain ⟨q, hq⟩ : ∃ q, q = natToI xs := ⟨_, rfl⟩
      rw [← hq] at hb ⊢
      have HQ := Lib.hid hq
      clear hq
      have HW : Hid (wrap64 (-q) = -q) := by unfold Hid wrap64; omega
      cases n with
      | true =>
        go_enter Try.func34, Try.ntmps34
        go_wp2_with fail
        refine (specNatToInt_any a c xs _ (HA.out.below (ba1 _ _)) hl).mono ?_
        rintro e W1 ⟨rfl, b1⟩
        have Rx := bx1_0 b1
        have B := Lib.hid (bstep (ba1 _ _) b1)
        have sb1 := b1.size
        try simp at sb1
        have Yx0 := Rx.cell 0 rfl
        have Yx1 := Rx.cell 1 rfl
        have Lx := Rx.lt
        clear b1
        rw [← HQ.out]
        go_wp2_with fail
        refine (specBigIntOk_any true a c xs _ (HA.out.below B.out) hl).mono ?_
        rintro e W2 ⟨rfl, b2⟩
        clear Yx0 Yx1 Lx
        have Rx := box_step Rx b2
        have B := Lib.hid (bstep B.out b2)
        have sb2 := b2.size
        have Yx0 := Rx.cell 0 rfl
        have Yx1 := Rx.cell 1 rfl
        have Lx := Rx.lt
        clear b2
        go_wp2
        go_ret2
        exact ⟨rfl, B.out⟩
      | false =>
        go_enter Try.func34, Try.ntmps34
        go_wp2_with fail
        refine (specNatToInt_any a c xs _ (HA.out.below (ba1 _ _)) hl).mono ?_
        rintro e W3 ⟨rfl, b3⟩
        have Rx := bx1_0 b3
        have B := Lib.hid (bstep (ba1 _ _) b3)
        have sb3 := b3.size
        try simp at sb3
        have Yx0 := Rx.cell 0 rfl
        have Yx1 := Rx.cell 1 rfl
        have Lx := Rx.lt
        clear b3
        rw [← HQ.out]
        go_wp2_with fail
        refine (specBigIntOk_any false a c xs _ (HA.out.below B.out) hl).mono ?_
        rintro e W4 ⟨rfl, b4⟩
        clear Yx0 Yx1 Lx
        have Rx := box_step Rx b4
        have B := Lib.hid (bstep B.out b4)
        have sb4 := b4.size
        have Yx0 := Rx.cell 0 rfl
        have Yx1 := Rx.cell 1 rfl
        have Lx := Rx.lt
        clear b4
        go_wp2
        go_ret2
        exact ⟨rfl, B.out⟩
    · have h2' := Bool.eq_false_iff.2 h2
      have hB : bigToB n xs = false := by unfold bigToB; rw [h2']; simp
      have hI : bigToI n xs = 0 := by unfold bigToI; rw [hB]; rfl
      rw [hB, hI]
      clear hB hI
      go_enter Try.func34, Try.ntmps34
      go_wp2_with fail
      refine (specNatToInt_any a c xs _ (HA.out.below (ba1 _ _)) hl).mono ?_
      rintro e W5 ⟨rfl, b5⟩
      have Rx := bx1_0 b5
      have B := Lib.hid (bstep (ba1 _ _) b5)
      have sb5 := b5.size
      try simp at sb5
      have Yx0 := Rx.cell 0 rfl
      have Yx1 := Rx.cell 1 rfl
      have Lx := Rx.lt
      clear b5
      go_wp2_with fail
      refine (specBigIntOk_any n a c xs _ (HA.out.below B.out) hl).mono ?_
      rintro e W6 ⟨rfl, b6⟩
      clear Yx0 Yx1 Lx
      have Rx := box_step Rx b6
      have B := Lib.hid (bstep B.out b6)
      have sb6 := b6.size
      have Yx0 := Rx.cell 0 rfl
      have Yx1 := Rx.cell 1 rfl
      have Lx := Rx.lt
      clear b6
      go_wp2
      go_ret2
      exact ⟨rfl, B.out⟩
  · have h1' := Bool.eq_false_iff.2 h1
    have hB : bigToB n xs = false := by unfold bigToB; rw [h1']; rfl
    have hI : bigToI n xs = 0 := by unfold bigToI; rw [hB]; rfl
    rw [hB, hI]
    clear hB hI
    go_enter Try.func34, Try.ntmps34
    go_wp2_with fail
    refine (specNatToInt_any a c xs _ (HA.out.below (ba1 _ _)) hl).mono ?_
    rintro e W7 ⟨rfl, b7⟩
    have Rx := bx1_0 b7
    have B := Lib.hid (bstep (ba1 _ _) b7)
    have sb7 := b7.size
    try simp at sb7
    have Yx0 := Rx.cell 0 rfl
    have Yx1 := Rx.cell 1 rfl
    have Lx := Rx.lt
    clear b7
    go_wp2
    go_ret2
    exact ⟨rfl, B.out⟩
set_option maxHeartbeats 2000000 in
theorem implBigIntToInt_any : Calls Try.prog 36 #[.agg #[.bool n, .slice a xs.length c]] w fun e w' => e = .returned (.tuple #[.int .i64 (bigToI n xs), .bool (bigToB n xs)]) ∧ Below w.heap.size w w' := by
  have HA := Lib.hid ha
  clear ha
  by_cases h1 : natToB xs = true
  · by_cases h2 : bigOkB n xs = true
    · have hB : bigToB n xs = true := by unfold bigToB; rw [h1, h2]; rfl
      have hI : bigToI n xs = if n then -natToI xs else natToI xs := by unfold bigToI; rw [hB]; rfl
      rw [hB, hI]
      clear hB hI
      have hb := natToI_bounds xs
      obtain ⟨q, hq⟩ : ∃ q, q = natToI xs := ⟨_, rfl⟩
      rw [← hq] at hb ⊢
      have HQ := Lib.hid hq
      clear hq
      have HW : Hid (wrap64 (-q) = -q) := by unfold Hid wrap64; omega
      cases n with
      | true =>
        go_enter Try.func36, Try.ntmps36
        go_wp2_with fail
        refine (implNatToInt_any a c xs _ (HA.out.below (ba1 _ _)) hl).mono ?_
        rintro e W8 ⟨rfl, b8⟩
        have Rx := bx1_0 b8
        have B := Lib.hid (bstep (ba1 _ _) b8)
        have sb8 := b8.size
        try simp at sb8
        have Yx0 := Rx.cell 0 rfl
        have Yx1 := Rx.cell 1 rfl
        have Lx := Rx.lt
        clear b8
        rw [← HQ.out]
        go_wp2_with fail
        refine (implBigIntOk_any true a c xs _ (HA.out.below B.out) hl).mono ?_
        rintro e W9 ⟨rfl, b9⟩
        clear Yx0 Yx1 Lx
        have Rx := box_step Rx b9
        have B := Lib.hid (bstep B.out b9)
        have sb9 := b9.size
        have Yx0 := Rx.cell 0 rfl
        have Yx1 := Rx.cell 1 rfl
        have Lx := Rx.lt
        clear b9
        go_wp2
        go_ret2
        exact ⟨rfl, B.out⟩
      | false =>
        go_enter Try.func36, Try.ntmps36
        go_wp2_with fail
        refine (implNatToInt_any a c xs _ (HA.out.below (ba1 _ _)) hl).mono ?_
        rintro e W10 ⟨rfl, b10⟩
        have Rx := bx1_0 b10
        have B := Lib.hid (bstep (ba1 _ _) b10)
        have sb10 := b10.size
        try simp at sb10
        have Yx0 := Rx.cell 0 rfl
        have Yx1 := Rx.cell 1 rfl
        have Lx := Rx.lt
        clear b10
        rw [← HQ.out]
        go_wp2_with fail
        refine (implBigIntOk_any false a c xs _ (HA.out.below B.out) hl).mono ?_
        rintro e W11 ⟨rfl, b11⟩
        clear Yx0 Yx1 Lx
        have Rx := box_step Rx b11
        have B := Lib.hid (bstep B.out b11)
        have sb11 := b11.size
        have Yx0 := Rx.cell 0 rfl
        have Yx1 := Rx.cell 1 rfl
        have Lx := Rx.lt
        clear b11
        go_wp2
        go_ret2
        exact ⟨rfl, B.out⟩
    · have h2' := Bool.eq_false_iff.2 h2
      have hB : bigToB n xs = false := by unfold bigToB; rw [h2']; simp
      have hI : bigToI n xs = 0 := by unfold bigToI; rw [hB]; rfl
      rw [hB, hI]
      clear hB hI
      go_enter Try.func36, Try.ntmps36
      go_wp2_with fail
      refine (implNatToInt_any a c xs _ (HA.out.below (ba1 _ _)) hl).mono ?_
      rintro e W12 ⟨rfl, b12⟩
      have Rx := bx1_0 b12
      have B := Lib.hid (bstep (ba1 _ _) b12)
      have sb12 := b12.size
      try simp at sb12
      have Yx0 := Rx.cell 0 rfl
      have Yx1 := Rx.cell 1 rfl
      have Lx := Rx.lt
      clear b12
      go_wp2_with fail
      refine (implBigIntOk_any n a c xs _ (HA.out.below B.out) hl).mono ?_
      rintro e W13 ⟨rfl, b13⟩
      clear Yx0 Yx1 Lx
      have Rx := box_step Rx b13
      have B := Lib.hid (bstep B.out b13)
      have sb13 := b13.size
      have Yx0 := Rx.cell 0 rfl
      have Yx1 := Rx.cell 1 rfl
      have Lx := Rx.lt
      clear b13
      go_wp2
      go_ret2
      exact ⟨rfl, B.out⟩
  · have h1' := Bool.eq_false_iff.2 h1
    have hB : bigToB n xs = false := by unfold bigToB; rw [h1']; rfl
    have hI : bigToI n xs = 0 := by unfold bigToI; rw [hB]; rfl
    rw [hB, hI]
    clear hB hI
    go_enter Try.func36, Try.ntmps36
    go_wp2_with fail
    refine (implNatToInt_any a c xs _ (HA.out.below (ba1 _ _)) hl).mono ?_
    rintro e W14 ⟨rfl, b14⟩
    have Rx := bx1_0 b14
    have B := Lib.hid (bstep (ba1 _ _) b14)
    have sb14 := b14.size
    try simp at sb14
    have Yx0 := Rx.cell 0 rfl
    have Yx1 := Rx.cell 1 rfl
    have Lx := Rx.lt
    clear b14
    go_wp2
    go_ret2
    exact ⟨rfl, B.out⟩
end
end Go.Proofs.Ytcbamiablkbeoaa
