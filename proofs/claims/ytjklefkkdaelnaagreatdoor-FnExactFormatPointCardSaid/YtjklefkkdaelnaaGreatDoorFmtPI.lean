/- FormatPoint: the program. -/
import Derived.Test.YtjklefkkdaelnaaGreatDoorFmtPS
import Derived.Test.YtjklefkkdaelnaaGreatDoorFmtRI
import Derived.Test.YtjklefkkdaelnaaGreatDoorPtI
namespace Go.Proofs.YtjklefkkdaelnaaGreatDoor
set_option linter.unusedVariables false
set_option linter.unusedSimpArgs false
open Go.RowKit
section
variable (n : Bool) (a : Option Addr) (ca : Nat) (xs : List Int) (b : Option Addr) (cb : Nat) (ds : List Int) (m : Bool) (a2 : Option Addr) (ca2 : Nat) (ys : List Int) (b2 : Option Addr) (cb2 : Nat) (es : List Int) (w : World) (ha : IntsAt w a ca xs) (hn : xs.length ≤ 1048576) (hb : IntsAt w b cb ds) (hm : ds.length ≤ 1048576) (ha2 : IntsAt w a2 ca2 ys) (hn2 : ys.length ≤ 1048576) (hb2 : IntsAt w b2 cb2 es) (hm2 : es.length ≤ 1048576)
include ha hn hb hm ha2 hn2 hb2 hm2
set_option maxRecDepth 100000 in
set_option maxHeartbeats 2000000 in
theorem implFormatPoint_any (htab : Tab w) : Calls Tryz.prog 9 #[.agg #[.bool n, .slice a xs.length ca, .slice b ds.length cb, .bool m, .slice a2 ys.length ca2, .slice b2 es.length cb2]] w fun e w' => e = .returned (.string (fmtPt n xs ds m ys es)) ∧ Below w.heap.size w w' := by
  have HA := Lib.hid ha
  have HB := Lib.hid hb
  have HA2 := Lib.hid ha2
  have HB2 := Lib.hid hb2
  clear ha hb ha2 hb2
  have h1 := fmtRat_size n xs ds
  have h2 := fmtRat_size m ys es
  have hno1 : ¬ 9223372036854775807 < (fmtRat n xs ds).size + 1 := by omega
  have hno2 : ¬ 9223372036854775807 < (fmtRat n xs ds).size + 1 + (fmtRat m ys es).size := by omega
  by_cases h : (ratOkB n xs ds && ratOkB m ys es) = true
  case neg =>
    have e : fmtPt n xs ds m ys es = ByteArray.empty := by unfold fmtPt; rw [if_neg h]
    have h' := Bool.eq_false_iff.2 h
    rw [e]
    clear e h
    generalize hq : (ratOkB n xs ds && ratOkB m ys es) = q at h'
    subst h'
    have HQ := Lib.hid hq
    clear hq
    go_enter Tryz.func9, Tryz.ntmps9
    go_wp2_with fail
    refine (implIsValidPoint_any n a ca xs b cb ds m a2 ca2 ys b2 cb2 es _ (HA.out.below (ba1 _ _)) hn (HB.out.below (ba1 _ _)) hm (HA2.out.below (ba1 _ _)) hn2 (HB2.out.below (ba1 _ _)) hm2).mono ?_
    rintro e W1 ⟨rfl, b1⟩
    have Rx := bx1_0 b1
    have B := Lib.hid (bstep (ba1 _ _) b1)
    have sb1 := b1.size
    try simp at sb1
    have Yx0 := Rx.cell 0 rfl
    have Yx1 := Rx.cell 1 rfl
    have Yx2 := Rx.cell 2 rfl
    have Yx3 := Rx.cell 3 rfl
    have Yx4 := Rx.cell 4 rfl
    have Yx5 := Rx.cell 5 rfl
    have Lx := Rx.lt
    clear b1
    rw [HQ.out]
    go_wp2
    go_ret
    exact ⟨rfl, B.out⟩
  have e : fmtPt n xs ds m ys es = fmtRat n xs ds ++ ⟨#[44]⟩ ++ fmtRat m ys es := by unfold fmtPt; rw [if_pos h]
  rw [e]
  clear e
  have HQ := Lib.hid h
  clear h
  go_enter Tryz.func9, Tryz.ntmps9
  go_wp2_with fail
  refine (implIsValidPoint_any n a ca xs b cb ds m a2 ca2 ys b2 cb2 es _ (HA.out.below (ba1 _ _)) hn (HB.out.below (ba1 _ _)) hm (HA2.out.below (ba1 _ _)) hn2 (HB2.out.below (ba1 _ _)) hm2).mono ?_
  rintro e W2 ⟨rfl, b2⟩
  have Rx := bx1_0 b2
  have B := Lib.hid (bstep (ba1 _ _) b2)
  have sb2 := b2.size
  try simp at sb2
  have Yx0 := Rx.cell 0 rfl
  have Yx1 := Rx.cell 1 rfl
  have Yx2 := Rx.cell 2 rfl
  have Yx3 := Rx.cell 3 rfl
  have Yx4 := Rx.cell 4 rfl
  have Yx5 := Rx.cell 5 rfl
  have Lx := Rx.lt
  clear b2
  rw [HQ.out]
  have tok3 : True := trivial
  have tok4 : True := trivial
  go_wp2_with fail
  go_region_held3 (fun w' => w'.cell? ⟨w.heap.size, 0, none⟩ = some (.bool n) ∧ w'.cell? ⟨w.heap.size, 1, none⟩ = some (.slice a xs.length ca) ∧ w'.cell? ⟨w.heap.size, 2, none⟩ = some (.slice b ds.length cb) ∧ w'.cell? ⟨w.heap.size, 3, none⟩ = some (.bool m) ∧ w'.cell? ⟨w.heap.size, 4, none⟩ = some (.slice a2 ys.length ca2) ∧ w'.cell? ⟨w.heap.size, 5, none⟩ = some (.slice b2 es.length cb2))
    ((first | exact ⟨Yx0, Yx1, Yx2, Yx3, Yx4, Yx5⟩ | exact ⟨cell_stepD Yx0 b3, cell_stepD Yx1 b3, cell_stepD Yx2 b3, cell_stepD Yx3 b3, cell_stepD Yx4 b3, cell_stepD Yx5 b3⟩ | exact ⟨cell_step (cell_stepD Yx0 b3) b4, cell_step (cell_stepD Yx1 b3) b4, cell_step (cell_stepD Yx2 b3) b4, cell_step (cell_stepD Yx3 b3) b4, cell_step (cell_stepD Yx4 b3) b4, cell_step (cell_stepD Yx5 b3) b4⟩))
    (first | (go_at_call 17; clear tok3; refine (implFormatRat_any n a ca xs b cb ds _ (HA.out.below (B.out.drew)) hn (HB.out.below (B.out.drew)) hm (tabB htab (B.out.drew))).mono ?_; rintro e W3 ⟨rfl, b3⟩; have s3 := b3.size; (try simp at s3)) | (go_at_call 17; clear tok4; refine (implFormatRat_any m a2 ca2 ys b2 cb2 es _ (HA2.out.below (bstepD B.out b3)) hn2 (HB2.out.below (bstepD B.out b3)) hm2 (tabB htab (bstepD B.out b3))).mono ?_; rintro e W4 ⟨rfl, b4⟩; have s4 := b4.size; (try simp at s4)))
  have sb3 := b3.size
  try simp at sb3
  have sb4 := b4.size
  have B := Lib.hid (bstep (bstepD B.out b3) b4)
  clear Yx0 Yx1 Yx2 Yx3 Yx4 Yx5 Lx
  have Rx := (box_step (box_step (box_drew Rx) b3) b4)
  have Yx0 := Rx.cell 0 rfl
  have Yx1 := Rx.cell 1 rfl
  have Yx2 := Rx.cell 2 rfl
  have Yx3 := Rx.cell 3 rfl
  have Yx4 := Rx.cell 4 rfl
  have Yx5 := Rx.cell 5 rfl
  have Lx := Rx.lt
  clear b3 b4
  go_wp2
  go_ret
  exact ⟨rfl, B.out⟩
end
end Go.Proofs.YtjklefkkdaelnaaGreatDoor
