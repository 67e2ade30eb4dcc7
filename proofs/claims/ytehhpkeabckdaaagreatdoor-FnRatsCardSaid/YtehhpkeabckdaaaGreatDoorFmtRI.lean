/- FormatRat: the program. -/
import Derived.Test.YtehhpkeabckdaaaGreatDoorFmtRS
import Derived.Test.YtehhpkeabckdaaaGreatDoorRatJ
namespace Go.Proofs.YtehhpkeabckdaaaGreatDoor
set_option linter.unusedVariables false
set_option linter.unusedSimpArgs false
open Go.RowKit
section
variable (n : Bool) (a : Option Addr) (ca : Nat) (xs : List Int) (b : Option Addr) (cb : Nat) (ds : List Int) (w : World) (ha : IntsAt w a ca xs) (hn : xs.length ≤ 1048576) (hb : IntsAt w b cb ds) (hm : ds.length ≤ 1048576)
include ha hn hb hm
set_option maxRecDepth 100000 in
set_option maxHeartbeats 2000000 in
theorem implFormatRat_any (htab : Tab w) : Calls Tryz.prog 6 #[.agg #[.bool n, .slice a xs.length ca, .slice b ds.length cb]] w fun e w' => e = .returned (.string (fmtRat n xs ds)) ∧ Below w.heap.size w w' := by
  have HA := Lib.hid ha
  have HB := Lib.hid hb
  clear ha hb
  have hsz := fmtNat_size ds
  have hsb := fmtBig_size n xs
  have hno1 : ¬ 9223372036854775807 < (fmtBig n xs).size + 1 := by omega
  have hno2 : ¬ 9223372036854775807 < (fmtBig n xs).size + 1 + (fmtNat ds).size := by omega
  by_cases h : ratOkB n xs ds = true
  case neg =>
    have h' := Bool.eq_false_iff.2 h
    have e : fmtRat n xs ds = ByteArray.empty := by unfold fmtRat; rw [if_neg h]
    rw [e]
    clear e
    go_enter Tryz.func6, Tryz.ntmps6
    go_wp2_with fail
    refine (implRatOk_any n a ca xs b cb ds _ (HA.out.below (ba1 _ _)) hn (HB.out.below (ba1 _ _)) hm).mono ?_
    rintro e W1 ⟨rfl, b1⟩
    have Rx := bx1_0 b1
    have B := Lib.hid (bstep (ba1 _ _) b1)
    have sb1 := b1.size
    try simp at sb1
    have Yx0 := Rx.cell 0 rfl
    have Yx1 := Rx.cell 1 rfl
    have Yx2 := Rx.cell 2 rfl
    have Lx := Rx.lt
    clear b1
    go_wp2
    go_ret
    exact ⟨rfl, B.out⟩
  obtain ⟨N, rfl⟩ : ∃ N, ds = digs N := ⟨val ds, (ratOk_den h).symm⟩
  have hm2 : (digs N).length ≤ 1048576 := hm
  by_cases h1 : N = 1
  · have e : fmtRat n xs (digs N) = fmtBig n xs := by unfold fmtRat; rw [if_pos h, val_digs, if_pos h1]
    rw [e]
    clear e
    have HO := Lib.hid (fun (W : World) (hW : IntsAt W b cb (digs N)) => (show Calls Tryz.prog 22 #[.slice b (digs N).length cb] W fun e w' => e = .returned (.bool true) ∧ Below W.heap.size W w' from (isOne_any b cb N W hW).mono fun _ _ ⟨x, y⟩ => ⟨by rw [x, show decide (N = 1) = true from decide_eq_true h1], y⟩))
    clear h1
    go_enter Tryz.func6, Tryz.ntmps6
    go_wp2_with fail
    refine (implRatOk_any n a ca xs b cb (digs N) _ (HA.out.below (ba1 _ _)) hn (HB.out.below (ba1 _ _)) hm).mono ?_
    rintro e W2 ⟨rfl, b2⟩
    have Rx := bx1_0 b2
    have B := Lib.hid (bstep (ba1 _ _) b2)
    have sb2 := b2.size
    try simp at sb2
    have Yx0 := Rx.cell 0 rfl
    have Yx1 := Rx.cell 1 rfl
    have Yx2 := Rx.cell 2 rfl
    have Lx := Rx.lt
    clear b2
    go_wp2_with fail
    refine (HO.out _ (HB.out.below B.out)).mono ?_
    rintro e W3 ⟨rfl, b3⟩
    clear Yx0 Yx1 Yx2 Lx
    have Rx := box_step Rx b3
    have B := Lib.hid (bstep B.out b3)
    have sb3 := b3.size
    have Yx0 := Rx.cell 0 rfl
    have Yx1 := Rx.cell 1 rfl
    have Yx2 := Rx.cell 2 rfl
    have Lx := Rx.lt
    clear b3
    go_wp2_with fail
    refine (implFormatBigInt_any n a ca xs _ (HA.out.below B.out) hn (tabB htab B.out)).mono ?_
    rintro e W4 ⟨rfl, b4⟩
    clear Yx0 Yx1 Yx2 Lx
    have Rx := box_step Rx b4
    have B := Lib.hid (bstep B.out b4)
    have sb4 := b4.size
    have Yx0 := Rx.cell 0 rfl
    have Yx1 := Rx.cell 1 rfl
    have Yx2 := Rx.cell 2 rfl
    have Lx := Rx.lt
    clear b4
    go_wp2
    go_ret
    exact ⟨rfl, B.out⟩
  · have e : fmtRat n xs (digs N) = fmtBig n xs ++ ⟨#[47]⟩ ++ fmtNat (digs N) := by unfold fmtRat; rw [if_pos h, val_digs, if_neg h1]
    rw [e]
    clear e
    have HO := Lib.hid (fun (W : World) (hW : IntsAt W b cb (digs N)) => (show Calls Tryz.prog 22 #[.slice b (digs N).length cb] W fun e w' => e = .returned (.bool false) ∧ Below W.heap.size W w' from (isOne_any b cb N W hW).mono fun _ _ ⟨x, y⟩ => ⟨by rw [x, show decide (N = 1) = false from decide_eq_false h1], y⟩))
    clear h1
    go_enter Tryz.func6, Tryz.ntmps6
    go_wp2_with fail
    refine (implRatOk_any n a ca xs b cb (digs N) _ (HA.out.below (ba1 _ _)) hn (HB.out.below (ba1 _ _)) hm).mono ?_
    rintro e W5 ⟨rfl, b5⟩
    have Rx := bx1_0 b5
    have B := Lib.hid (bstep (ba1 _ _) b5)
    have sb5 := b5.size
    try simp at sb5
    have Yx0 := Rx.cell 0 rfl
    have Yx1 := Rx.cell 1 rfl
    have Yx2 := Rx.cell 2 rfl
    have Lx := Rx.lt
    clear b5
    go_wp2_with fail
    refine (HO.out _ (HB.out.below B.out)).mono ?_
    rintro e W6 ⟨rfl, b6⟩
    clear Yx0 Yx1 Yx2 Lx
    have Rx := box_step Rx b6
    have B := Lib.hid (bstep B.out b6)
    have sb6 := b6.size
    have Yx0 := Rx.cell 0 rfl
    have Yx1 := Rx.cell 1 rfl
    have Yx2 := Rx.cell 2 rfl
    have Lx := Rx.lt
    clear b6
    go_wp2_with fail
    go_region_held3 (fun w' => w'.cell? ⟨w.heap.size, 0, none⟩ = some (.bool n) ∧ w'.cell? ⟨w.heap.size, 1, none⟩ = some (.slice a xs.length ca) ∧ w'.cell? ⟨w.heap.size, 2, none⟩ = some (.slice b (digs N).length cb))
      ((first | exact ⟨Yx0, Yx1, Yx2⟩ | exact ⟨cell_stepD Yx0 b7, cell_stepD Yx1 b7, cell_stepD Yx2 b7⟩ | exact ⟨cell_step (cell_stepD Yx0 b7) b8, cell_step (cell_stepD Yx1 b7) b8, cell_step (cell_stepD Yx2 b7) b8⟩))
      (first | (go_at_call 23; refine (implFormatBigInt_any n a ca xs _ (HA.out.below (B.out.drew)) hn (tabB htab (B.out.drew))).mono ?_; rintro e W7 ⟨rfl, b7⟩; have s7 := b7.size; (try simp at s7)) | (go_at_call 24; refine (implFormatNat_any b cb (digs N) _ (HB.out.below (bstepD B.out b7)) hm2 (tabB htab (bstepD B.out b7))).mono ?_; rintro e W8 ⟨rfl, b8⟩; have s8 := b8.size; (try simp at s8)))
    have sb7 := b7.size
    try simp at sb7
    have sb8 := b8.size
    have B := Lib.hid (bstep (bstepD B.out b7) b8)
    clear Yx0 Yx1 Yx2 Lx
    have Rx := (box_step (box_step (box_drew Rx) b7) b8)
    have Yx0 := Rx.cell 0 rfl
    have Yx1 := Rx.cell 1 rfl
    have Yx2 := Rx.cell 2 rfl
    have Lx := Rx.lt
    clear b7 b8
    go_wp2
    go_ret
    exact ⟨rfl, B.out⟩
end
end Go.Proofs.YtehhpkeabckdaaaGreatDoor
