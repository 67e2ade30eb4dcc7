/- FormatBigInt. -/
import Derived.Test.YtjklefkkdaelnaaDoorFmtI
import Derived.Test.YtjklefkkdaelnaaDoorK4
namespace Go.Proofs.YtjklefkkdaelnaaDoor
set_option linter.unusedVariables false
set_option linter.unusedSimpArgs false
open Go.RowKit
def fmtBig (n : Bool) (xs : List Int) : ByteArray := if bigOkB n xs then (if n then ⟨#[45]⟩ ++ fmtNat xs else fmtNat xs) else ByteArray.empty
theorem fmtBig_size (n : Bool) (xs : List Int) : (fmtBig n xs).size ≤ 542 := by
  have := fmtNat_size xs
  have h1 : (⟨#[45]⟩ : ByteArray).size = 1 := rfl
  unfold fmtBig
  split
  · split
    · rw [ByteArray.size_append]; omega
    · omega
  · exact Nat.zero_le _
section
variable (n : Bool) (a : Option Addr) (c : Nat) (xs : List Int) (w : World) (ha : IntsAt w a c xs) (hl : xs.length ≤ 1048576)
include ha hl
set_option maxRecDepth 100000 in
set_option maxHeartbeats 2000000 in
theorem specFormatBigInt_any : Calls Tryd.prog 27 #[.agg #[.bool n, .slice a xs.length c]] w fun e w' => e = .returned (.string (fmtBig n xs)) ∧ Below w.heap.size w w' := by
  have HA := Lib.hid ha
  clear ha
  have hsz := fmtNat_size xs
  have hno : ¬ 9223372036854775807 < 1 + (fmtNat xs).size := by omega
  by_cases h2 : bigOkB n xs = true
  · cases n with
    | true =>
      have hB : fmtBig true xs = ⟨#[45]⟩ ++ fmtNat xs := by unfold fmtBig; rw [if_pos h2]; rfl
      rw [hB]
      clear hB
      go_enter Tryd.func27, Tryd.ntmps27
      go_wp2_with fail
      refine (specBigIntOk_any true a c xs _ (HA.out.below (ba1 _ _)) hl).mono ?_
      rintro e W1 ⟨rfl, b1⟩
      have Rx := bx1_0 b1
      have B := Lib.hid (bstep (ba1 _ _) b1)
      have sb1 := b1.size
      try simp at sb1
      have Yx0 := Rx.cell 0 rfl
      have Yx1 := Rx.cell 1 rfl
      have Lx := Rx.lt
      clear b1
      go_wp2_with fail
      refine (specFormatNat_any a c xs _ (HA.out.below B.out) hl).mono ?_
      rintro e W2 ⟨rfl, b2⟩
      clear Yx0 Yx1 Lx
      have Rx := box_step Rx b2
      have B := Lib.hid (bstep B.out b2)
      have sb2 := b2.size
      have Yx0 := Rx.cell 0 rfl
      have Yx1 := Rx.cell 1 rfl
      have Lx := Rx.lt
      clear b2
      go_wp2
      go_ret
      exact ⟨rfl, B.out⟩
    | false =>
      have hB : fmtBig false xs = fmtNat xs := by unfold fmtBig; rw [if_pos h2]; rfl
      rw [hB]
      clear hB
      go_enter Tryd.func27, Tryd.ntmps27
      go_wp2_with fail
      refine (specBigIntOk_any false a c xs _ (HA.out.below (ba1 _ _)) hl).mono ?_
      rintro e W3 ⟨rfl, b3⟩
      have Rx := bx1_0 b3
      have B := Lib.hid (bstep (ba1 _ _) b3)
      have sb3 := b3.size
      try simp at sb3
      have Yx0 := Rx.cell 0 rfl
      have Yx1 := Rx.cell 1 rfl
      have Lx := Rx.lt
      clear b3
      go_wp2_with fail
      refine (specFormatNat_any a c xs _ (HA.out.below B.out) hl).mono ?_
      rintro e W4 ⟨rfl, b4⟩
      clear Yx0 Yx1 Lx
      have Rx := box_step Rx b4
      have B := Lib.hid (bstep B.out b4)
      have sb4 := b4.size
      have Yx0 := Rx.cell 0 rfl
      have Yx1 := Rx.cell 1 rfl
      have Lx := Rx.lt
      clear b4
      go_wp2
      go_ret
      exact ⟨rfl, B.out⟩
  · have h2' := Bool.eq_false_iff.2 h2
    have hB : fmtBig n xs = ByteArray.empty := by unfold fmtBig; rw [if_neg h2]
    rw [hB]
    clear hB
    go_enter Tryd.func27, Tryd.ntmps27
    go_wp2_with fail
    refine (specBigIntOk_any n a c xs _ (HA.out.below (ba1 _ _)) hl).mono ?_
    rintro e W5 ⟨rfl, b5⟩
    have Rx := bx1_0 b5
    have B := Lib.hid (bstep (ba1 _ _) b5)
    have sb5 := b5.size
    try simp at sb5
    have Yx0 := Rx.cell 0 rfl
    have Yx1 := Rx.cell 1 rfl
    have Lx := Rx.lt
    clear b5
    go_wp2
    go_ret
    exact ⟨rfl, B.out⟩
set_option maxRecDepth 100000 in
set_option maxHeartbeats 2000000 in
theorem implFormatBigInt_any (htab : Tab w) : Calls Tryd.prog 29 #[.agg #[.bool n, .slice a xs.length c]] w fun e w' => e = .returned (.string (fmtBig n xs)) ∧ Below w.heap.size w w' := by
  have HA := Lib.hid ha
  clear ha
  have hsz := fmtNat_size xs
  have hno : ¬ 9223372036854775807 < 1 + (fmtNat xs).size := by omega
  by_cases h2 : bigOkB n xs = true
  · cases n with
    | true =>
      have hB : fmtBig true xs = ⟨#[45]⟩ ++ fmtNat xs := by unfold fmtBig; rw [if_pos h2]; rfl
      rw [hB]
      clear hB
      go_enter Tryd.func29, Tryd.ntmps29
      go_wp2_with fail
      refine (implBigIntOk_any true a c xs _ (HA.out.below (ba1 _ _)) hl).mono ?_
      rintro e W6 ⟨rfl, b6⟩
      have Rx := bx1_0 b6
      have B := Lib.hid (bstep (ba1 _ _) b6)
      have sb6 := b6.size
      try simp at sb6
      have Yx0 := Rx.cell 0 rfl
      have Yx1 := Rx.cell 1 rfl
      have Lx := Rx.lt
      clear b6
      go_wp2_with fail
      refine (implFormatNat_any a c xs _ (HA.out.below B.out) hl (tabB htab B.out)).mono ?_
      rintro e W7 ⟨rfl, b7⟩
      clear Yx0 Yx1 Lx
      have Rx := box_step Rx b7
      have B := Lib.hid (bstep B.out b7)
      have sb7 := b7.size
      have Yx0 := Rx.cell 0 rfl
      have Yx1 := Rx.cell 1 rfl
      have Lx := Rx.lt
      clear b7
      go_wp2
      go_ret
      exact ⟨rfl, B.out⟩
    | false =>
      have hB : fmtBig false xs = fmtNat xs := by unfold fmtBig; rw [if_pos h2]; rfl
      rw [hB]
      clear hB
      go_enter Tryd.func29, Tryd.ntmps29
      go_wp2_with fail
      refine (implBigIntOk_any false a c xs _ (HA.out.below (ba1 _ _)) hl).mono ?_
      rintro e W8 ⟨rfl, b8⟩
      have Rx := bx1_0 b8
      have B := Lib.hid (bstep (ba1 _ _) b8)
      have sb8 := b8.size
      try simp at sb8
      have Yx0 := Rx.cell 0 rfl
      have Yx1 := Rx.cell 1 rfl
      have Lx := Rx.lt
      clear b8
      go_wp2_with fail
      refine (implFormatNat_any a c xs _ (HA.out.below B.out) hl (tabB htab B.out)).mono ?_
      rintro e W9 ⟨rfl, b9⟩
      clear Yx0 Yx1 Lx
      have Rx := box_step Rx b9
      have B := Lib.hid (bstep B.out b9)
      have sb9 := b9.size
      have Yx0 := Rx.cell 0 rfl
      have Yx1 := Rx.cell 1 rfl
      have Lx := Rx.lt
      clear b9
      go_wp2
      go_ret
      exact ⟨rfl, B.out⟩
  · have h2' := Bool.eq_false_iff.2 h2
    have hB : fmtBig n xs = ByteArray.empty := by unfold fmtBig; rw [if_neg h2]
    rw [hB]
    clear hB
    go_enter Tryd.func29, Tryd.ntmps29
    go_wp2_with fail
    refine (implBigIntOk_any n a c xs _ (HA.out.below (ba1 _ _)) hl).mono ?_
    rintro e W10 ⟨rfl, b10⟩
    have Rx := bx1_0 b10
    have B := Lib.hid (bstep (ba1 _ _) b10)
    have sb10 := b10.size
    try simp at sb10
    have Yx0 := Rx.cell 0 rfl
    have Yx1 := Rx.cell 1 rfl
    have Lx := Rx.lt
    clear b10
    go_wp2
    go_ret
    exact ⟨rfl, B.out⟩
end
end Go.Proofs.YtjklefkkdaelnaaDoor
