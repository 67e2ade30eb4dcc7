/- FormatBigInt. -/
import Derived.Test.YtehhpkeabckdaaaGreatDoorFmtI
import Derived.Test.YtehhpkeabckdaaaGreatDoorK4
namespace Go.Proofs.YtehhpkeabckdaaaGreatDoor
set_option linter.unusedVariables false
set_option linter.unusedSimpArgs false
open Go.RowKit
def fmtBig (n : Bool) (xs : List Int) : ByteArray := if bigOkB n xs then (if n then ⟨#[45]⟩ ++ fmtNat xs else fmtNat xs) else ByteArray.empty
theorem fmtBig_size (n : Bool) (xs : List Int) : (fmtBig n xs).size ≤ 542 := by
  have := fmtNat_size xs
  have h1 : (⟨#[45]⟩ : ByteArray).size = 1 := rfl
  unfold fmtBig
  split
  · split
    · rw [ByteArray.size_append]; omega
    · omega
  · exact Nat.zero_le _
section
variable (n : Bool) (a : Option Addr) (c : Nat) (xs : List Int) (w : World) (ha : IntsAt w a c xs) (hl : xs.length ≤ 1048576)
include ha hl
set_option maxRecDepth 100000 in
set_option maxHeartbeats 2000000 in
theorem implFormatBigInt_any (htab : Tab w) : Calls Tryz.prog 23 #[.agg #[.bool n, .slice a xs.length c]] w fun e w' => e = .returned (.string (fmtBig n xs)) ∧ Below w.heap.size w w' := by
  have HA := Lib.hid ha
  clear ha
  have hsz := fmtNat_size xs
  have hno : ¬ 9223372036854775807 < 1 + (fmtNat xs).size := by omega
  by_cases h2 : bigOkB n xs = true
  · cases n with
    | true =>
      have hB : fmtBig true xs = ⟨#[45]⟩ ++ fmtNat xs := by unfold fmtBig; rw [if_pos h2]; rfl
      rw [hB]
      clear hB
      go_enter Tryz.func23, Tryz.ntmps23
      go_wp2_with fail
      refine (implBigIntOk_any true a c xs _ (HA.out.below (ba1 _ _)) hl).mono ?_
      rintro e W6 ⟨rfl, b6⟩
      have Rx := bx1_0 b6
      have B := Lib.hid (bstep (ba1 _ _) b6)
      have sb6 := b6.size
      try simp at sb6
      have Yx0 := Rx.cell 0 rfl
      have Yx1 := Rx.cell 1 rfl
      have Lx := Rx.lt
      clear b6
      go_wp2_with fail
      refine (implFormatNat_any a c xs _ (HA.out.below B.out) hl (tabB htab B.out)).mono ?_
      rintro e W7 ⟨rfl, b7⟩
      clear Yx0 Yx1 Lx
      have Rx := box_step Rx b7
      have B := Lib.hid (bstep B.out b7)
      have sb7 := b7.size
      have Yx0 := Rx.cell 0 rfl
      have Yx1 := Rx.cell 1 rfl
      have Lx := Rx.lt
      clear b7
      go_wp2
      go_ret
      exact ⟨rfl, B.out⟩
    | false =>
      have hB : fmtBig false xs = fmtNat xs := by unfold fmtBig; rw [if_pos h2]; rfl
      rw [hB]
      clear hB
      go_enter Tryz.func23, Tryz.ntmps23
      go_wp2_with fail
      refine (implBigIntOk_any false a c xs _ (HA.out.below (ba1 _ _)) hl).mono ?_
      rintro e W8 ⟨rfl, b8⟩
      have Rx := bx1_0 b8
      have B := Lib.hid (bstep (ba1 _ _) b8)
      have sb8 := b8.size
      try simp at sb8
      have Yx0 := Rx.cell 0 rfl
      have Yx1 := Rx.cell 1 rfl
      have Lx := Rx.lt
      clear b8
      go_wp2_with fail
      refine (implFormatNat_any a c xs _ (HA.out.below B.out) hl (tabB htab B.out)).mono ?_
      rintro e W9 ⟨rfl, b9⟩
      clear Yx0 Yx1 Lx
      have Rx := box_step Rx b9
      have B := Lib.hid (bstep B.out b9)
      have sb9 := b9.size
      have Yx0 := Rx.cell 0 rfl
      have Yx1 := Rx.cell 1 rfl
      have Lx := Rx.lt
      clear b9
      go_wp2
      go_ret
      exact ⟨rfl, B.out⟩
  · have h2' := Bool.eq_false_iff.2 h2
    have hB : fmtBig n xs = ByteArray.empty := by unfold fmtBig; rw [if_neg h2]
    rw [hB]
    clear hB
    go_enter Tryz.func23, Tryz.ntmps23
    go_wp2_with fail
    refine (implBigIntOk_any n a c xs _ (HA.out.below (ba1 _ _)) hl).mono ?_
    rintro e W10 ⟨rfl, b10⟩
    have Rx := bx1_0 b10
    have B := Lib.hid (bstep (ba1 _ _) b10)
    have sb10 := b10.size
    try simp at sb10
    have Yx0 := Rx.cell 0 rfl
    have Yx1 := Rx.cell 1 rfl
    have Lx := Rx.lt
    clear b10
    go_wp2
    go_ret
    exact ⟨rfl, B.out⟩
end
end Go.Proofs.YtehhpkeabckdaaaGreatDoor
