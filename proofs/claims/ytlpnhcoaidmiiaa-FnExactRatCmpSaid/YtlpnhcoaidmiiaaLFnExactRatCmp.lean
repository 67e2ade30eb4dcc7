/- For every input the law FnExactRatCmp returns true, and its arguments read afterwards as they read before. No condition. -/
import Derived.Deep.RegionHeld3
import Derived.Deep.DeepCutAuto
import Derived.Test.YtlpnhcoaidmiiaaFrameA
import Derived.Test.YtlpnhcoaidmiiaaLaws2
import Derived.Test.YtlpnhcoaidmiiaaRatKLM
namespace Go.Proofs.Ytlpnhcoaidmiiaa.fnExactRatCmp
set_option linter.unusedVariables false
set_option linter.unusedSimpArgs false
open Go.ChangeShapes Go.WideShapes Go.ChangeAt Go.RowKit
open Go.ChangeMaps (open_string shut_string)

set_option maxRecDepth 100000 in
set_option maxHeartbeats 8000000 in
theorem walk (n00 : Bool) (a000 : Option Addr) (c000 : Nat) (x000 : List Int) (a001 : Option Addr) (c001 : Nat) (x001 : List Int) (n10 : Bool) (a100 : Option Addr) (c100 : Nat) (x100 : List Int) (a101 : Option Addr) (c101 : Nat) (x101 : List Int) (w : World) (w000 : IntsAt w a000 c000 x000) (w001 : IntsAt w a001 c001 x001) (w100 : IntsAt w a100 c100 x100) (w101 : IntsAt w a101 c101 x101) :
    Calls Try.prog 12 #[.agg #[.bool n00, .slice a000 x000.length c000, .slice a001 x001.length c001], .agg #[.bool n10, .slice a100 x100.length c100, .slice a101 x101.length c101]] w fun e w' => e = .returned (.bool true) ∧ Below w.heap.size w w' := by
  by_cases g0 : x000.length + x001.length ≤ 1048576
  case neg =>
    go_enter Try.func12, Try.ntmps12
    go_wp2_with fail
    refine (szRat_any n00 _ _ x000 _ _ x001 _ _ (by omega) (by omega) w000.len63 w001.len63).mono ?_
    rintro e W1 ⟨rfl, b1⟩
    rw [if_pos (by omega)]
    have s1 := b1.size
    simp at s1
    have Barg0x1 : Box W1 (w.heap.size) #[.bool n00, .slice a000 x000.length c000, .slice a001 x001.length c001] := bx2_0 b1
    have Barg1x1 : Box W1 (w.heap.size + 1) #[.bool n10, .slice a100 x100.length c100, .slice a101 x101.length c101] := bx2_1 b1
    replace b1 := bstep (ba2 _ _ _ ) b1
    have h1 : Below w.heap.size w W1 := (bstep (Below.refl _ _) b1)
    go_wp2
    go_ret
    exact ⟨rfl, h1⟩
  by_cases g1 : x000.length + x001.length + x100.length + x101.length ≤ 1048576
  case neg =>
    go_enter Try.func12, Try.ntmps12
    go_wp2_with fail
    refine (szRat_any n00 _ _ x000 _ _ x001 _ _ (by omega) (by omega) w000.len63 w001.len63).mono ?_
    rintro e W1 ⟨rfl, b1⟩
    rw [if_neg (by omega)]
    have s1 := b1.size
    simp at s1
    have Barg0x1 : Box W1 (w.heap.size) #[.bool n00, .slice a000 x000.length c000, .slice a001 x001.length c001] := bx2_0 b1
    have Barg1x1 : Box W1 (w.heap.size + 1) #[.bool n10, .slice a100 x100.length c100, .slice a101 x101.length c101] := bx2_1 b1
    replace b1 := bstep (ba2 _ _ _ ) b1
    have Carg1q0 : W1.cell? ⟨(w.heap.size + 1), 0, none⟩ = some (.bool n10) := Barg1x1.cell 0 rfl
    have Carg1q1 : W1.cell? ⟨(w.heap.size + 1), 1, none⟩ = some (.slice a100 x100.length c100) := Barg1x1.cell 1 rfl
    have Carg1q2 : W1.cell? ⟨(w.heap.size + 1), 2, none⟩ = some (.slice a101 x101.length c101) := Barg1x1.cell 2 rfl
    have Carg1lt : (w.heap.size + 1) < W1.heap.size := Barg1x1.lt
    go_wp2_with fail
    refine (szRat_any n10 _ _ x100 _ _ x101 _ _ (by omega) (by omega) w100.len63 w101.len63).mono ?_
    rintro e W2 ⟨rfl, b2⟩
    rw [if_pos (by omega)]
    clear Carg1q0 Carg1q1 Carg1q2 Carg1lt
    have s2 := b2.size
    have h1 : Below w.heap.size w W2 := (bstep (bstep (Below.refl _ _) b1) b2)
    go_wp2
    go_ret
    exact ⟨rfl, h1⟩
  have l000 : x000.length ≤ 1048576 := by omega
  have l001 : x001.length ≤ 1048576 := by omega
  have l100 : x100.length ≤ 1048576 := by omega
  have l101 : x101.length ≤ 1048576 := by omega
  go_enter Try.func12, Try.ntmps12
  go_wp2_with fail
  refine (szRat_any n00 _ _ x000 _ _ x001 _ _ (by omega) (by omega) w000.len63 w001.len63).mono ?_
  rintro e W1 ⟨rfl, b1⟩
  rw [if_neg (by omega)]
  have s1 := b1.size
  simp at s1
  have Barg0x1 : Box W1 (w.heap.size) #[.bool n00, .slice a000 x000.length c000, .slice a001 x001.length c001] := bx2_0 b1
  have Barg1x1 : Box W1 (w.heap.size + 1) #[.bool n10, .slice a100 x100.length c100, .slice a101 x101.length c101] := bx2_1 b1
  replace b1 := bstep (ba2 _ _ _ ) b1
  have Carg1q0 : W1.cell? ⟨(w.heap.size + 1), 0, none⟩ = some (.bool n10) := Barg1x1.cell 0 rfl
  have Carg1q1 : W1.cell? ⟨(w.heap.size + 1), 1, none⟩ = some (.slice a100 x100.length c100) := Barg1x1.cell 1 rfl
  have Carg1q2 : W1.cell? ⟨(w.heap.size + 1), 2, none⟩ = some (.slice a101 x101.length c101) := Barg1x1.cell 2 rfl
  have Carg1lt : (w.heap.size + 1) < W1.heap.size := Barg1x1.lt
  go_wp2_with fail
  refine (szRat_any n10 _ _ x100 _ _ x101 _ _ (by omega) (by omega) w100.len63 w101.len63).mono ?_
  rintro e W2 ⟨rfl, b2⟩
  rw [if_neg (by omega)]
  clear Carg1q0 Carg1q1 Carg1q2 Carg1lt
  have s2 := b2.size
  have x1 := (box_step Barg0x1 b2)
  have Carg0q0 : W2.cell? ⟨(w.heap.size), 0, none⟩ = some (.bool n00) := x1.cell 0 rfl
  have Carg0q1 : W2.cell? ⟨(w.heap.size), 1, none⟩ = some (.slice a000 x000.length c000) := x1.cell 1 rfl
  have Carg0q2 : W2.cell? ⟨(w.heap.size), 2, none⟩ = some (.slice a001 x001.length c001) := x1.cell 2 rfl
  have Carg0lt : (w.heap.size) < W2.heap.size := x1.lt
  have x2 := (box_step Barg1x1 b2)
  have Carg1q0 : W2.cell? ⟨(w.heap.size + 1), 0, none⟩ = some (.bool n10) := x2.cell 0 rfl
  have Carg1q1 : W2.cell? ⟨(w.heap.size + 1), 1, none⟩ = some (.slice a100 x100.length c100) := x2.cell 1 rfl
  have Carg1q2 : W2.cell? ⟨(w.heap.size + 1), 2, none⟩ = some (.slice a101 x101.length c101) := x2.cell 2 rfl
  have Carg1lt : (w.heap.size + 1) < W2.heap.size := x2.lt
  have h3 : Below w.heap.size w W2 := (bstep (bstep (Below.refl _ _) b1) b2)
  go_wp2_with fail
  have tok3 : True := trivial
  have tok4 : True := trivial
  go_region_held3 (fun w' => w'.cell? ⟨(w.heap.size), 0, none⟩ = some (.bool n00) ∧ w'.cell? ⟨(w.heap.size), 1, none⟩ = some (.slice a000 x000.length c000) ∧ w'.cell? ⟨(w.heap.size), 2, none⟩ = some (.slice a001 x001.length c001) ∧ w'.cell? ⟨(w.heap.size + 1), 0, none⟩ = some (.bool n10) ∧ w'.cell? ⟨(w.heap.size + 1), 1, none⟩ = some (.slice a100 x100.length c100) ∧ w'.cell? ⟨(w.heap.size + 1), 2, none⟩ = some (.slice a101 x101.length c101))
    ((refine ⟨?_, ?_, ?_, ?_, ?_, ?_⟩ <;> (repeat first | with_reducible assumption | with_reducible refine cell_low ?_ (by first | omega | (simp; done) | (simp; omega)) | with_reducible refine cell_step ?_ (ba1 _ _) | with_reducible refine cell_step ?_ (by assumption) | with_reducible refine cell_dr ?_)))
    (first | (go_at_call 38; clear tok3; refine (toRat_own n00 _ _ x000 _ _ x001 _ (w000.below (by (repeat first | with_reducible assumption | with_reducible exact Below.refl _ _ | with_reducible refine bstep ?_ (ba1 _ _) | with_reducible refine bstep ?_ (by assumption) | with_reducible refine Below.drew ?_))) l000 (w001.below (by (repeat first | with_reducible assumption | with_reducible exact Below.refl _ _ | with_reducible refine bstep ?_ (ba1 _ _) | with_reducible refine bstep ?_ (by assumption) | with_reducible refine Below.drew ?_))) l001).mono ?_; rintro e W3 ⟨as00, cs00, as01, cs01, rfl, os0, b3⟩) | (go_at_call 38; clear tok4; refine (toRat_own n10 _ _ x100 _ _ x101 _ (w100.below (by (repeat first | with_reducible assumption | with_reducible exact Below.refl _ _ | with_reducible refine bstep ?_ (ba1 _ _) | with_reducible refine bstep ?_ (by assumption) | with_reducible refine Below.drew ?_))) l100 (w101.below (by (repeat first | with_reducible assumption | with_reducible exact Below.refl _ _ | with_reducible refine bstep ?_ (ba1 _ _) | with_reducible refine bstep ?_ (by assumption) | with_reducible refine Below.drew ?_))) l101).mono ?_; rintro e W4 ⟨as10, cs10, as11, cs11, rfl, os1, b4⟩) | (go_at_call 58; refine (specRatCmp_any n00 _ _ x000 _ _ x001 n10 _ _ x100 _ _ x101 _ (os0.i1.below (by (repeat first | with_reducible assumption | with_reducible exact Below.refl _ _ | with_reducible refine bstep ?_ (ba1 _ _) | with_reducible refine bstep ?_ (by assumption) | with_reducible refine Below.drew ?_))) l000 (os0.i2.below (by (repeat first | with_reducible assumption | with_reducible exact Below.refl _ _ | with_reducible refine bstep ?_ (ba1 _ _) | with_reducible refine bstep ?_ (by assumption) | with_reducible refine Below.drew ?_))) l001 (os1.i1.below (by (repeat first | with_reducible assumption | with_reducible exact Below.refl _ _ | with_reducible refine bstep ?_ (ba1 _ _) | with_reducible refine bstep ?_ (by assumption) | with_reducible refine Below.drew ?_))) l100 (os1.i2.below (by (repeat first | with_reducible assumption | with_reducible exact Below.refl _ _ | with_reducible refine bstep ?_ (ba1 _ _) | with_reducible refine bstep ?_ (by assumption) | with_reducible refine Below.drew ?_))) l101).mono ?_; rintro e W5 ⟨rfl, b5⟩))
  have s3 := b3.size
  simp at s3
  have s4 := b4.size
  have s5 := b5.size
  clear Carg0q0 Carg0q1 Carg0q2 Carg0lt
  clear Carg1q0 Carg1q1 Carg1q2 Carg1lt
  have x4 := (box_step (box_step (box_step (box_drew x1) b3) b4) b5)
  have Carg0q0 : W5.cell? ⟨(w.heap.size), 0, none⟩ = some (.bool n00) := x4.cell 0 rfl
  have Carg0q1 : W5.cell? ⟨(w.heap.size), 1, none⟩ = some (.slice a000 x000.length c000) := x4.cell 1 rfl
  have Carg0q2 : W5.cell? ⟨(w.heap.size), 2, none⟩ = some (.slice a001 x001.length c001) := x4.cell 2 rfl
  have Carg0lt : (w.heap.size) < W5.heap.size := x4.lt
  go_wp2_with fail
  have h5 : Below w.heap.size w W5 := (bstep (bstep (bstep h3.drew b3) b4) b5)
  refine (toRat_own n00 _ _ x000 _ _ x001 _ (w000.below h5) l000 (w001.below h5) l001).mono ?_
  rintro e W6 ⟨ax00, cx00, ax01, cx01, rfl, ox0, b6⟩
  clear Carg0q0 Carg0q1 Carg0q2 Carg0lt
  have s6 := b6.size
  have x6 := (box_step (box_step (box_step (box_step (box_drew x2) b3) b4) b5) b6)
  have Carg1q0 : W6.cell? ⟨(w.heap.size + 1), 0, none⟩ = some (.bool n10) := x6.cell 0 rfl
  have Carg1q1 : W6.cell? ⟨(w.heap.size + 1), 1, none⟩ = some (.slice a100 x100.length c100) := x6.cell 1 rfl
  have Carg1q2 : W6.cell? ⟨(w.heap.size + 1), 2, none⟩ = some (.slice a101 x101.length c101) := x6.cell 2 rfl
  have Carg1lt : (w.heap.size + 1) < W6.heap.size := x6.lt
  go_wp2_with fail
  refine (toRat_own n10 _ _ x100 _ _ x101 _ (w100.below (bstep (bstep h5 b6) (ba1 _ _))) l100 (w101.below (bstep (bstep h5 b6) (ba1 _ _))) l101).mono ?_
  rintro e W7 ⟨ax10, cx10, ax11, cx11, rfl, ox1, b7⟩
  clear Carg1q0 Carg1q1 Carg1q2 Carg1lt
  have s7 := b7.size
  simp at s7
  have Bx0x7 : Box W7 (W6.heap.size) #[.bool n00, .slice ax00 x000.length cx00, .slice ax01 x001.length cx01] := bx1_0 b7
  replace b7 := bstep (ba1 _ _ ) b7
  replace ox1 := ox1.mono (lo2 := W6.heap.size + 1) (by simp) (Nat.le_refl _)
  have Cx0q0 : W7.cell? ⟨(W6.heap.size), 0, none⟩ = some (.bool n00) := Bx0x7.cell 0 rfl
  have Cx0q1 : W7.cell? ⟨(W6.heap.size), 1, none⟩ = some (.slice ax00 x000.length cx00) := Bx0x7.cell 1 rfl
  have Cx0q2 : W7.cell? ⟨(W6.heap.size), 2, none⟩ = some (.slice ax01 x001.length cx01) := Bx0x7.cell 2 rfl
  have Cx0lt : (W6.heap.size) < W7.heap.size := Bx0x7.lt
  go_wp2_with fail
  refine (implRatCmp_any n00 _ _ x000 _ _ x001 n10 _ _ x100 _ _ x101 _ ((ox0.below b7).below (ba1 _ _)).i1 l000 ((ox0.below b7).below (ba1 _ _)).i2 l001 (ox1.below (ba1 _ _)).i1 l100 (ox1.below (ba1 _ _)).i2 l101).mono ?_
  rintro e W8 ⟨rfl, b8⟩
  clear Cx0q0 Cx0q1 Cx0q2 Cx0lt
  have s8 := b8.size
  simp at s8
  have Bx1x8 : Box W8 (W7.heap.size) #[.bool n10, .slice ax10 x100.length cx10, .slice ax11 x101.length cx11] := bx1_0 b8
  replace b8 := bstep (ba1 _ _ ) b8
  have x7 := (box_step Bx0x7 b8)
  have Cx0q0 : W8.cell? ⟨(W6.heap.size), 0, none⟩ = some (.bool n00) := x7.cell 0 rfl
  have Cx0q1 : W8.cell? ⟨(W6.heap.size), 1, none⟩ = some (.slice ax00 x000.length cx00) := x7.cell 1 rfl
  have Cx0q2 : W8.cell? ⟨(W6.heap.size), 2, none⟩ = some (.slice ax01 x001.length cx01) := x7.cell 2 rfl
  have Cx0lt : (W6.heap.size) < W8.heap.size := x7.lt
  have x8 := (box_step (box_step (box_step x4 b6) b7) b8)
  have Carg0q0 : W8.cell? ⟨(w.heap.size), 0, none⟩ = some (.bool n00) := x8.cell 0 rfl
  have Carg0q1 : W8.cell? ⟨(w.heap.size), 1, none⟩ = some (.slice a000 x000.length c000) := x8.cell 1 rfl
  have Carg0q2 : W8.cell? ⟨(w.heap.size), 2, none⟩ = some (.slice a001 x001.length c001) := x8.cell 2 rfl
  have Carg0lt : (w.heap.size) < W8.heap.size := x8.lt
  go_wp2_with fail
  have h9 : Below w.heap.size w W8 := (bstep (bstep (bstep h5 b6) b7) b8)
  have f10 := ((ox0.below b7).below b8)
  go_region_held3 (fun w' => w'.cell? ⟨(W6.heap.size), 0, none⟩ = some (.bool n00) ∧ w'.cell? ⟨(W6.heap.size), 1, none⟩ = some (.slice ax00 x000.length cx00) ∧ w'.cell? ⟨(W6.heap.size), 2, none⟩ = some (.slice ax01 x001.length cx01) ∧ w'.cell? ⟨(w.heap.size), 0, none⟩ = some (.bool n00) ∧ w'.cell? ⟨(w.heap.size), 1, none⟩ = some (.slice a000 x000.length c000) ∧ w'.cell? ⟨(w.heap.size), 2, none⟩ = some (.slice a001 x001.length c001))
    ((first | exact ⟨Cx0q0, Cx0q1, Cx0q2, Carg0q0, Carg0q1, Carg0q2⟩ | exact ⟨cell_stepD Cx0q0 b9, cell_stepD Cx0q1 b9, cell_stepD Cx0q2 b9, cell_stepD Carg0q0 b9, cell_stepD Carg0q1 b9, cell_stepD Carg0q2 b9⟩ | exact ⟨cell_step (cell_stepD Cx0q0 b9) b10, cell_step (cell_stepD Cx0q1 b9) b10, cell_step (cell_stepD Cx0q2 b9) b10, cell_step (cell_stepD Carg0q0 b9) b10, cell_step (cell_stepD Carg0q1 b9) b10, cell_step (cell_stepD Carg0q2 b9) b10⟩))
    (first | (go_at_call 38; refine (toRat_own n00 _ _ x000 _ _ x001 _ (w000.below h9.drew) l000 (w001.below h9.drew) l001).mono ?_; rintro e W9 ⟨ay00, cy00, ay01, cy01, rfl, oy0, b9⟩) | (go_at_call 28; refine (eqRat_same (n00) _ _ _ _ (x000) _ _ _ _ (x001) _ (((f10).below (Below.refl _ _).drew).below b9).i1 oy0.i1 l000 (((f10).below (Below.refl _ _).drew).below b9).i2 oy0.i2 l001).mono ?_; rintro e W10 ⟨rfl, b10⟩))
  have s9 := b9.size
  simp at s9
  have s10 := b10.size
  clear Cx0q0 Cx0q1 Cx0q2 Cx0lt
  clear Carg0q0 Carg0q1 Carg0q2 Carg0lt
  have x11 := (box_step (box_step (box_drew Bx1x8) b9) b10)
  have Cx1q0 : W10.cell? ⟨(W7.heap.size), 0, none⟩ = some (.bool n10) := x11.cell 0 rfl
  have Cx1q1 : W10.cell? ⟨(W7.heap.size), 1, none⟩ = some (.slice ax10 x100.length cx10) := x11.cell 1 rfl
  have Cx1q2 : W10.cell? ⟨(W7.heap.size), 2, none⟩ = some (.slice ax11 x101.length cx11) := x11.cell 2 rfl
  have Cx1lt : (W7.heap.size) < W10.heap.size := x11.lt
  have x12 := (box_step (box_step (box_drew (box_step (box_step x6 b7) b8)) b9) b10)
  have Carg1q0 : W10.cell? ⟨(w.heap.size + 1), 0, none⟩ = some (.bool n10) := x12.cell 0 rfl
  have Carg1q1 : W10.cell? ⟨(w.heap.size + 1), 1, none⟩ = some (.slice a100 x100.length c100) := x12.cell 1 rfl
  have Carg1q2 : W10.cell? ⟨(w.heap.size + 1), 2, none⟩ = some (.slice a101 x101.length c101) := x12.cell 2 rfl
  have Carg1lt : (w.heap.size + 1) < W10.heap.size := x12.lt
  go_wp2_with fail
  have h13 : Below w.heap.size w W10 := (bstep (bstep h9.drew b9) b10)
  have f14 := ((((ox1.below b8).below (Below.refl _ _).drew).below b9).below b10)
  go_region_held3 (fun w' => w'.cell? ⟨(W7.heap.size), 0, none⟩ = some (.bool n10) ∧ w'.cell? ⟨(W7.heap.size), 1, none⟩ = some (.slice ax10 x100.length cx10) ∧ w'.cell? ⟨(W7.heap.size), 2, none⟩ = some (.slice ax11 x101.length cx11) ∧ w'.cell? ⟨(w.heap.size + 1), 0, none⟩ = some (.bool n10) ∧ w'.cell? ⟨(w.heap.size + 1), 1, none⟩ = some (.slice a100 x100.length c100) ∧ w'.cell? ⟨(w.heap.size + 1), 2, none⟩ = some (.slice a101 x101.length c101))
    ((first | exact ⟨Cx1q0, Cx1q1, Cx1q2, Carg1q0, Carg1q1, Carg1q2⟩ | exact ⟨cell_stepD Cx1q0 b11, cell_stepD Cx1q1 b11, cell_stepD Cx1q2 b11, cell_stepD Carg1q0 b11, cell_stepD Carg1q1 b11, cell_stepD Carg1q2 b11⟩ | exact ⟨cell_step (cell_stepD Cx1q0 b11) b12, cell_step (cell_stepD Cx1q1 b11) b12, cell_step (cell_stepD Cx1q2 b11) b12, cell_step (cell_stepD Carg1q0 b11) b12, cell_step (cell_stepD Carg1q1 b11) b12, cell_step (cell_stepD Carg1q2 b11) b12⟩))
    (first | (go_at_call 38; refine (toRat_own n10 _ _ x100 _ _ x101 _ (w100.below h13.drew) l100 (w101.below h13.drew) l101).mono ?_; rintro e W11 ⟨ay10, cy10, ay11, cy11, rfl, oy1, b11⟩) | (go_at_call 28; refine (eqRat_same (n10) _ _ _ _ (x100) _ _ _ _ (x101) _ (((f14).below (Below.refl _ _).drew).below b11).i1 oy1.i1 l100 (((f14).below (Below.refl _ _).drew).below b11).i2 oy1.i2 l101).mono ?_; rintro e W12 ⟨rfl, b12⟩))
  have s11 := b11.size
  simp at s11
  have s12 := b12.size
  clear Cx1q0 Cx1q1 Cx1q2 Cx1lt
  clear Carg1q0 Carg1q1 Carg1q2 Carg1lt
  go_wp2
  go_ret
  have h15 : Below w.heap.size w W12 := (bstep (bstep h13.drew b11) b12)
  exact ⟨rfl, h15⟩

set_option maxRecDepth 100000 in
theorem lifted (os : Os) (started : os.Started) (H : Type) (enc : TypeId × Value → H) :
    ReturnsInHanded {} Try.checked os 12 .any (Rows.fnExactRatCmpSpec.pre6 enc Try.prog Try.f12 Rows.fnExactRatCmpRow.domain false) (Rows.fnExactRatCmpSpec.post enc Try.prog Try.f12 false true false false) := by
  refine returnsInHanded_of_change (C := Try.checked) Try.own started (by kernel_rfl) Try.func12
    (ChangeSpec.witness6 (enc := enc) (C := Try.checked) false ⟨#[], #[.agg #[.bool false, .slice none 0 0, .slice none 0 0], .agg #[.bool false, .slice none 0 0, .slice none 0 0]], []⟩ 8 (by kernel_rfl) (by kernel_rfl) (by kernel_rfl) (by kernel_rfl)) ?_
  intro W base args ds gs before hval0 hW hcnd _
  have hval : ∀ (j : Nat) t v, Try.f12.params[j]? = some t → args[j]? = some v → Value.okWide Try.prog W .any base t v := hval0
  have hW' := hW
  obtain ⟨p, q, hA0, hV, rfl, hfz, hnd⟩ := hW
  have hA : DataW.TrodAll enc Try.prog W 0 (fun _ => true) true Try.f12.params.toList args.toList ds p := hA0
  rw [Try.params12] at hA hval
  obtain ⟨v0, vs0, d0, ds0, p0, q0, hargs, rfl, rfl, h0, r0⟩ := trodAll_cons hA
  obtain ⟨v1, vs1, d1, ds1, p1, q1, rfl, rfl, rfl, h1, r1⟩ := trodAll_cons r0
  obtain ⟨rfl, rfl, rfl⟩ := trodAll_nil r1
  obtain rfl : args = #[v0, v1] := by cases args; simp_all
  obtain ⟨rfl, rfl⟩ := trodVars_none hV
  have k0 := h0
  have lt0 : ∀ x ∈ p0, x.block < W.heap.size := by obtain ⟨m, hm⟩ := k0; exact DataW.trod_lt m _ _ _ hm
  obtain ⟨n00, a000, c000, x000, a001, c001, x001, rfl, w000, w001⟩ := rat_of_arg (hval 0 39 v0 rfl rfl) h0
  have k1 := h1
  have lt1 : ∀ x ∈ p1, x.block < W.heap.size := by obtain ⟨m, hm⟩ := k1; exact DataW.trod_lt m _ _ _ hm
  obtain ⟨n10, a100, c100, x100, a101, c101, x101, rfl, w100, w101⟩ := rat_of_arg (hval 1 39 v1 rfl rfl) h1
  clear hA0 hval0
  refine (walk n00 a000 c000 x000 a001 c001 x001 n10 a100 c100 x100 a101 c101 x101 W w000 w001 w100 w101).mono fun e W' ⟨he, bel⟩ => ?_
  subst he
  exact ⟨_, rfl, _, _, _, [], _, [], hW', trodAll_mk1 (shut_bool Try.underlying4 _), (trodAll_cons_mk (Below.trod Try.laidOut (by kernel_rfl) (of_decide_eq_true (by kernel_rfl)) k0 bel lt0) (trodAll_cons_mk (Below.trod Try.laidOut (by kernel_rfl) (of_decide_eq_true (by kernel_rfl)) k1 bel lt1) trodAll_mk0)), rfl, bel.frame _, fun h => by cases h⟩

theorem over : Rows.fnExactRatCmpRow.holds Try.pinned (OpenSpec.ofChange Rows.fnExactRatCmpSpec) :=
  OpenClaim.holds_of_wide 12 Try.f12 rfl rfl rfl rfl rfl rfl rfl ⟨rfl, rfl, rfl, rfl, rfl⟩ rfl rfl rfl rfl rfl (by kernel_rfl) Try.func12 (closed_ofP may_enter make_cut lifts_final 12 Try.f12 Rows.fnExactRatCmpSpec Rows.fnExactRatCmpRow prog_facts (by kernel_rfl) rfl rfl)
    (of_decide_eq_true (by kernel_rfl)) (by unfold Func.isWrapper; first | (rw [if_pos (by decide +kernel)]; kernel_rfl) | (rw [if_neg (by decide +kernel)]; exact ⟨rfl, rfl⟩))
    (fun os started H enc _ => lifted os started H enc)

theorem proved : Rows.FnExactRatCmpSaid := over
#print axioms proved
end Go.Proofs.Ytlpnhcoaidmiiaa.fnExactRatCmp
