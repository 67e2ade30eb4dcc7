/- For every input the law FnExactRatNeg returns true, and its arguments read afterwards as they read before. No condition. -/
import Derived.Deep.RegionHeld3
import Derived.Deep.DeepCutAuto
import Derived.Test.YtlpnhcoaidmiiaaFrameR
import Derived.Test.YtlpnhcoaidmiiaaLaws2
import Derived.Test.YtlpnhcoaidmiiaaRatJ
import Derived.Test.YtlpnhcoaidmiiaaRatN
namespace Go.Proofs.Ytlpnhcoaidmiiaa.fnExactRatNeg
set_option linter.unusedVariables false
set_option linter.unusedSimpArgs false
open Go.ChangeShapes Go.WideShapes Go.ChangeAt Go.RowKit
open Go.ChangeMaps (open_string shut_string)

set_option maxRecDepth 100000 in
set_option maxHeartbeats 8000000 in
theorem walk (n00 : Bool) (a000 : Option Addr) (c000 : Nat) (x000 : List Int) (a001 : Option Addr) (c001 : Nat) (x001 : List Int) (w : World) (w000 : IntsAt w a000 c000 x000) (w001 : IntsAt w a001 c001 x001) :
    Calls Try.prog 11 #[.agg #[.bool n00, .slice a000 x000.length c000, .slice a001 x001.length c001]] w fun e w' => e = .returned (.bool true) ∧ Below w.heap.size w w' := by
  by_cases g0 : x000.length + x001.length ≤ 1048576
  case neg =>
    go_enter Try.func11, Try.ntmps11
    go_wp2_with fail
    refine (szRat_any n00 _ _ x000 _ _ x001 _ _ (by omega) (by omega) w000.len63 w001.len63).mono ?_
    rintro e W1 ⟨rfl, b1⟩
    rw [if_pos (by omega)]
    have s1 := b1.size
    simp at s1
    have Barg0x1 : Box W1 (w.heap.size) #[.bool n00, .slice a000 x000.length c000, .slice a001 x001.length c001] := bx1_0 b1
    replace b1 := bstep (ba1 _ _ ) b1
    have h1 : Below w.heap.size w W1 := (bstep (Below.refl _ _) b1)
    go_wp2
    go_ret
    exact ⟨rfl, h1⟩
  have l000 : x000.length ≤ 1048576 := by omega
  have l001 : x001.length ≤ 1048576 := by omega
  obtain ⟨l0, l1⟩ := (raOr_neg n00 x000 x001).len
  go_enter Try.func11, Try.ntmps11
  go_wp2_with fail
  refine (szRat_any n00 _ _ x000 _ _ x001 _ _ (by omega) (by omega) w000.len63 w001.len63).mono ?_
  rintro e W1 ⟨rfl, b1⟩
  rw [if_neg (by omega)]
  have s1 := b1.size
  simp at s1
  have Barg0x1 : Box W1 (w.heap.size) #[.bool n00, .slice a000 x000.length c000, .slice a001 x001.length c001] := bx1_0 b1
  replace b1 := bstep (ba1 _ _ ) b1
  have Carg0q0 : W1.cell? ⟨(w.heap.size), 0, none⟩ = some (.bool n00) := Barg0x1.cell 0 rfl
  have Carg0q1 : W1.cell? ⟨(w.heap.size), 1, none⟩ = some (.slice a000 x000.length c000) := Barg0x1.cell 1 rfl
  have Carg0q2 : W1.cell? ⟨(w.heap.size), 2, none⟩ = some (.slice a001 x001.length c001) := Barg0x1.cell 2 rfl
  have Carg0lt : (w.heap.size) < W1.heap.size := Barg0x1.lt
  go_wp2_with fail
  have h1 : Below w.heap.size w W1 := (bstep (Below.refl _ _) b1)
  refine (toRat_own n00 _ _ x000 _ _ x001 _ (w000.below h1) l000 (w001.below h1) l001).mono ?_
  rintro e W2 ⟨as00, cs00, as01, cs01, rfl, os0, b2⟩
  clear Carg0q0 Carg0q1 Carg0q2 Carg0lt
  have s2 := b2.size
  go_wp2_with fail
  refine (specRatNeg_any n00 _ _ x000 _ _ x001 _ os0.i1 l000 os0.i2 l001).mono ?_
  rintro e W3 ⟨at00, ct00, at01, ct01, rfl, it00, it01, b3⟩
  have s3 := b3.size
  have x2 := (box_step (box_step Barg0x1 b2) b3)
  have Carg0q0 : W3.cell? ⟨(w.heap.size), 0, none⟩ = some (.bool n00) := x2.cell 0 rfl
  have Carg0q1 : W3.cell? ⟨(w.heap.size), 1, none⟩ = some (.slice a000 x000.length c000) := x2.cell 1 rfl
  have Carg0q2 : W3.cell? ⟨(w.heap.size), 2, none⟩ = some (.slice a001 x001.length c001) := x2.cell 2 rfl
  have Carg0lt : (w.heap.size) < W3.heap.size := x2.lt
  go_wp2_with fail
  refine (toRat_own n00 _ _ x000 _ _ x001 _ (w000.below (bstep (bstep (bstep h1 b2) b3) (ba1 _ _))) l000 (w001.below (bstep (bstep (bstep h1 b2) b3) (ba1 _ _))) l001).mono ?_
  rintro e W4 ⟨ax00, cx00, ax01, cx01, rfl, ox0, b4⟩
  clear Carg0q0 Carg0q1 Carg0q2 Carg0lt
  have s4 := b4.size
  simp at s4
  have Bt0x4 : Box W4 (W3.heap.size) #[.bool (ratNegP n00 x000 x001).neg, .slice at00 (ratNegP n00 x000 x001).num.length ct00, .slice at01 (ratNegP n00 x000 x001).den.length ct01] := bx1_0 b4
  replace b4 := bstep (ba1 _ _ ) b4
  replace ox0 := ox0.mono (lo2 := W3.heap.size + 1) (by simp) (Nat.le_refl _)
  go_wp2_with fail
  refine (implRatNeg_any n00 _ _ x000 _ _ x001 _ (ox0.below (ba1 _ _)).i1 l000 (ox0.below (ba1 _ _)).i2 l001).mono ?_
  rintro e W5 ⟨ag00, cg00, ag01, cg01, rfl, og0, b5⟩
  have s5 := b5.size
  simp at s5
  have Bx0x5 : Box W5 (W4.heap.size) #[.bool n00, .slice ax00 x000.length cx00, .slice ax01 x001.length cx01] := bx1_0 b5
  replace b5 := bstep (ba1 _ _ ) b5
  replace og0 := og0.mono (lo2 := W4.heap.size + 1) (by simp) (Nat.le_refl _)
  have x3 := (box_step Bt0x4 b5)
  have Ct0q0 : W5.cell? ⟨(W3.heap.size), 0, none⟩ = some (.bool (ratNegP n00 x000 x001).neg) := x3.cell 0 rfl
  have Ct0q1 : W5.cell? ⟨(W3.heap.size), 1, none⟩ = some (.slice at00 (ratNegP n00 x000 x001).num.length ct00) := x3.cell 1 rfl
  have Ct0q2 : W5.cell? ⟨(W3.heap.size), 2, none⟩ = some (.slice at01 (ratNegP n00 x000 x001).den.length ct01) := x3.cell 2 rfl
  have Ct0lt : (W3.heap.size) < W5.heap.size := x3.lt
  go_wp2_with fail
  refine (eqRat_same ((ratNegP n00 x000 x001).neg) _ _ _ _ ((ratNegP n00 x000 x001).num) _ _ _ _ ((ratNegP n00 x000 x001).den) _ (og0.below (ba1 _ _)).i1 (it00.below (bstep (bstep (bstep (Below.refl _ _) b4) b5) (ba1 _ _))) l0 (og0.below (ba1 _ _)).i2 (it01.below (bstep (bstep (bstep (Below.refl _ _) b4) b5) (ba1 _ _))) l1).mono ?_
  rintro e W6 ⟨rfl, b6⟩
  clear Ct0q0 Ct0q1 Ct0q2 Ct0lt
  have s6 := b6.size
  simp at s6
  have Bg0x6 : Box W6 (W5.heap.size) #[.bool (ratNegP n00 x000 x001).neg, .slice ag00 (ratNegP n00 x000 x001).num.length cg00, .slice ag01 (ratNegP n00 x000 x001).den.length cg01] := bx1_0 b6
  replace b6 := bstep (ba1 _ _ ) b6
  have x4 := (box_step Bx0x5 b6)
  have Cx0q0 : W6.cell? ⟨(W4.heap.size), 0, none⟩ = some (.bool n00) := x4.cell 0 rfl
  have Cx0q1 : W6.cell? ⟨(W4.heap.size), 1, none⟩ = some (.slice ax00 x000.length cx00) := x4.cell 1 rfl
  have Cx0q2 : W6.cell? ⟨(W4.heap.size), 2, none⟩ = some (.slice ax01 x001.length cx01) := x4.cell 2 rfl
  have Cx0lt : (W4.heap.size) < W6.heap.size := x4.lt
  have x5 := (box_step (box_step (box_step x2 b4) b5) b6)
  have Carg0q0 : W6.cell? ⟨(w.heap.size), 0, none⟩ = some (.bool n00) := x5.cell 0 rfl
  have Carg0q1 : W6.cell? ⟨(w.heap.size), 1, none⟩ = some (.slice a000 x000.length c000) := x5.cell 1 rfl
  have Carg0q2 : W6.cell? ⟨(w.heap.size), 2, none⟩ = some (.slice a001 x001.length c001) := x5.cell 2 rfl
  have Carg0lt : (w.heap.size) < W6.heap.size := x5.lt
  go_wp2_with fail
  have h6 : Below w.heap.size w W6 := (bstep (bstep (bstep (bstep (bstep h1 b2) b3) b4) b5) b6)
  have f7 := ((ox0.below b5).below b6)
  go_region_held3 (fun w' => w'.cell? ⟨(W4.heap.size), 0, none⟩ = some (.bool n00) ∧ w'.cell? ⟨(W4.heap.size), 1, none⟩ = some (.slice ax00 x000.length cx00) ∧ w'.cell? ⟨(W4.heap.size), 2, none⟩ = some (.slice ax01 x001.length cx01) ∧ w'.cell? ⟨(w.heap.size), 0, none⟩ = some (.bool n00) ∧ w'.cell? ⟨(w.heap.size), 1, none⟩ = some (.slice a000 x000.length c000) ∧ w'.cell? ⟨(w.heap.size), 2, none⟩ = some (.slice a001 x001.length c001))
    ((first | exact ⟨Cx0q0, Cx0q1, Cx0q2, Carg0q0, Carg0q1, Carg0q2⟩ | exact ⟨cell_stepD Cx0q0 b7, cell_stepD Cx0q1 b7, cell_stepD Cx0q2 b7, cell_stepD Carg0q0 b7, cell_stepD Carg0q1 b7, cell_stepD Carg0q2 b7⟩ | exact ⟨cell_step (cell_stepD Cx0q0 b7) b8, cell_step (cell_stepD Cx0q1 b7) b8, cell_step (cell_stepD Cx0q2 b7) b8, cell_step (cell_stepD Carg0q0 b7) b8, cell_step (cell_stepD Carg0q1 b7) b8, cell_step (cell_stepD Carg0q2 b7) b8⟩))
    (first | (go_at_call 38; refine (toRat_own n00 _ _ x000 _ _ x001 _ (w000.below h6.drew) l000 (w001.below h6.drew) l001).mono ?_; rintro e W7 ⟨ay00, cy00, ay01, cy01, rfl, oy0, b7⟩) | (go_at_call 28; refine (eqRat_same (n00) _ _ _ _ (x000) _ _ _ _ (x001) _ (((f7).below (Below.refl _ _).drew).below b7).i1 oy0.i1 l000 (((f7).below (Below.refl _ _).drew).below b7).i2 oy0.i2 l001).mono ?_; rintro e W8 ⟨rfl, b8⟩))
  have s7 := b7.size
  simp at s7
  have s8 := b8.size
  clear Cx0q0 Cx0q1 Cx0q2 Cx0lt
  clear Carg0q0 Carg0q1 Carg0q2 Carg0lt
  have x8 := (box_step (box_step (box_drew x4) b7) b8)
  have Cx0q0 : W8.cell? ⟨(W4.heap.size), 0, none⟩ = some (.bool n00) := x8.cell 0 rfl
  have Cx0q1 : W8.cell? ⟨(W4.heap.size), 1, none⟩ = some (.slice ax00 x000.length cx00) := x8.cell 1 rfl
  have Cx0q2 : W8.cell? ⟨(W4.heap.size), 2, none⟩ = some (.slice ax01 x001.length cx01) := x8.cell 2 rfl
  have Cx0lt : (W4.heap.size) < W8.heap.size := x8.lt
  go_wp2_with fail
  have f9 := (((f7.below (Below.refl _ _).drew).below b7).below b8)
  refine (markRat_own _ _ _ (x000) _ _ (x001) _ _ f9 (by omega) l000 l001 (by omega) (by omega)).mono ?_
  rintro e W9 ⟨rfl, mx0x9, b9⟩
  have s9 := b9.size
  clear Cx0q0 Cx0q1 Cx0q2 Cx0lt
  have x10 := (box_span (box_step (box_step (box_drew Bg0x6) b7) b8) b9 (by omega))
  have Cg0q0 : W9.cell? ⟨(W5.heap.size), 0, none⟩ = some (.bool (ratNegP n00 x000 x001).neg) := x10.cell 0 rfl
  have Cg0q1 : W9.cell? ⟨(W5.heap.size), 1, none⟩ = some (.slice ag00 (ratNegP n00 x000 x001).num.length cg00) := x10.cell 1 rfl
  have Cg0q2 : W9.cell? ⟨(W5.heap.size), 2, none⟩ = some (.slice ag01 (ratNegP n00 x000 x001).den.length cg01) := x10.cell 2 rfl
  have Cg0lt : (W5.heap.size) < W9.heap.size := x10.lt
  have x11 := (box_span (box_step (box_step (box_drew (box_step x3 b6)) b7) b8) b9 (by omega))
  have Ct0q0 : W9.cell? ⟨(W3.heap.size), 0, none⟩ = some (.bool (ratNegP n00 x000 x001).neg) := x11.cell 0 rfl
  have Ct0q1 : W9.cell? ⟨(W3.heap.size), 1, none⟩ = some (.slice at00 (ratNegP n00 x000 x001).num.length ct00) := x11.cell 1 rfl
  have Ct0q2 : W9.cell? ⟨(W3.heap.size), 2, none⟩ = some (.slice at01 (ratNegP n00 x000 x001).den.length ct01) := x11.cell 2 rfl
  have Ct0lt : (W3.heap.size) < W9.heap.size := x11.lt
  go_wp2_with fail
  have f12 := (((((og0.below b6).below (Below.refl _ _).drew).below b7).below b8).span b9 (by omega))
  have h13 : Below W3.heap.size W3 W9 := (bspan (bstep (bstep (bstep (bstep (bstep (Below.refl _ _) b4) b5) b6).drew b7) b8) b9 (by omega))
  refine (eqRat_same ((ratNegP n00 x000 x001).neg) _ _ _ _ ((ratNegP n00 x000 x001).num) _ _ _ _ ((ratNegP n00 x000 x001).den) _ f12.i1 (it00.below h13) l0 f12.i2 (it01.below h13) l1).mono ?_
  rintro e W10 ⟨rfl, b10⟩
  clear Cg0q0 Cg0q1 Cg0q2 Cg0lt
  clear Ct0q0 Ct0q1 Ct0q2 Ct0lt
  have s10 := b10.size
  have x14 := (box_step x10 b10)
  have Cg0q0 : W10.cell? ⟨(W5.heap.size), 0, none⟩ = some (.bool (ratNegP n00 x000 x001).neg) := x14.cell 0 rfl
  have Cg0q1 : W10.cell? ⟨(W5.heap.size), 1, none⟩ = some (.slice ag00 (ratNegP n00 x000 x001).num.length cg00) := x14.cell 1 rfl
  have Cg0q2 : W10.cell? ⟨(W5.heap.size), 2, none⟩ = some (.slice ag01 (ratNegP n00 x000 x001).den.length cg01) := x14.cell 2 rfl
  have Cg0lt : (W5.heap.size) < W10.heap.size := x14.lt
  go_wp2_with fail
  have f15 := (f12.below b10)
  refine (markRat_own _ _ _ ((ratNegP n00 x000 x001).num) _ _ ((ratNegP n00 x000 x001).den) _ _ f15 (by omega) l0 l1 (by omega) (by omega)).mono ?_
  rintro e W11 ⟨rfl, mg0x11, b11⟩
  have s11 := b11.size
  clear Cg0q0 Cg0q1 Cg0q2 Cg0lt
  have x16 := (box_span x14 b11 (by omega))
  have Cg0q0 : W11.cell? ⟨(W5.heap.size), 0, none⟩ = some (.bool (ratNegP n00 x000 x001).neg) := x16.cell 0 rfl
  have Cg0q1 : W11.cell? ⟨(W5.heap.size), 1, none⟩ = some (.slice ag00 (ratNegP n00 x000 x001).num.length cg00) := x16.cell 1 rfl
  have Cg0q2 : W11.cell? ⟨(W5.heap.size), 2, none⟩ = some (.slice ag01 (ratNegP n00 x000 x001).den.length cg01) := x16.cell 2 rfl
  have Cg0lt : (W5.heap.size) < W11.heap.size := x16.lt
  go_wp2_with fail
  refine (heldRat_own _ _ _ _ _ _ _ _ _ mg0x11 l0 l1 (by omega) (by omega)).mono ?_
  rintro e W12 ⟨rfl, b12⟩
  clear Cg0q0 Cg0q1 Cg0q2 Cg0lt
  have s12 := b12.size
  have x17 := (box_step (box_span (box_step (box_span (box_step (box_step (box_drew x5) b7) b8) b9 (by omega)) b10) b11 (by omega)) b12)
  have Carg0q0 : W12.cell? ⟨(w.heap.size), 0, none⟩ = some (.bool n00) := x17.cell 0 rfl
  have Carg0q1 : W12.cell? ⟨(w.heap.size), 1, none⟩ = some (.slice a000 x000.length c000) := x17.cell 1 rfl
  have Carg0q2 : W12.cell? ⟨(w.heap.size), 2, none⟩ = some (.slice a001 x001.length c001) := x17.cell 2 rfl
  have Carg0lt : (w.heap.size) < W12.heap.size := x17.lt
  go_wp2_with fail
  have h18 : Below w.heap.size w W12 := (bstep (bspan (bstep (bspan (bstep (bstep h6.drew b7) b8) b9 (by omega)) b10) b11 (by omega)) b12)
  refine (toRat_own n00 _ _ x000 _ _ x001 _ (w000.below h18) l000 (w001.below h18) l001).mono ?_
  rintro e W13 ⟨az00, cz00, az01, cz01, rfl, oz0, b13⟩
  clear Carg0q0 Carg0q1 Carg0q2 Carg0lt
  have s13 := b13.size
  go_wp2_with fail
  refine (implRatNeg_any n00 _ _ x000 _ _ x001 _ oz0.i1 l000 oz0.i2 l001).mono ?_
  rintro e W14 ⟨ah00, ch00, ah01, ch01, rfl, oh0, b14⟩
  have s14 := b14.size
  have x19 := (box_step (box_step (box_step (box_span (box_step x11 b10) b11 (by omega)) b12) b13) b14)
  have Ct0q0 : W14.cell? ⟨(W3.heap.size), 0, none⟩ = some (.bool (ratNegP n00 x000 x001).neg) := x19.cell 0 rfl
  have Ct0q1 : W14.cell? ⟨(W3.heap.size), 1, none⟩ = some (.slice at00 (ratNegP n00 x000 x001).num.length ct00) := x19.cell 1 rfl
  have Ct0q2 : W14.cell? ⟨(W3.heap.size), 2, none⟩ = some (.slice at01 (ratNegP n00 x000 x001).den.length ct01) := x19.cell 2 rfl
  have Ct0lt : (W3.heap.size) < W14.heap.size := x19.lt
  go_wp2_with fail
  refine (eqRat_same ((ratNegP n00 x000 x001).neg) _ _ _ _ ((ratNegP n00 x000 x001).num) _ _ _ _ ((ratNegP n00 x000 x001).den) _ (oh0.below (ba1 _ _)).i1 (it00.below (bstep (bstep (bstep (bstep (bspan (bstep h13 b10) b11 (by omega)) b12) b13) b14) (ba1 _ _))) l0 (oh0.below (ba1 _ _)).i2 (it01.below (bstep (bstep (bstep (bstep (bspan (bstep h13 b10) b11 (by omega)) b12) b13) b14) (ba1 _ _))) l1).mono ?_
  rintro e W15 ⟨rfl, b15⟩
  clear Ct0q0 Ct0q1 Ct0q2 Ct0lt
  have s15 := b15.size
  simp at s15
  have Bh0x15 : Box W15 (W14.heap.size) #[.bool (ratNegP n00 x000 x001).neg, .slice ah00 (ratNegP n00 x000 x001).num.length ch00, .slice ah01 (ratNegP n00 x000 x001).den.length ch01] := bx1_0 b15
  replace b15 := bstep (ba1 _ _ ) b15
  have x20 := (box_step (box_step (box_step (box_step x16 b12) b13) b14) b15)
  have Cg0q0 : W15.cell? ⟨(W5.heap.size), 0, none⟩ = some (.bool (ratNegP n00 x000 x001).neg) := x20.cell 0 rfl
  have Cg0q1 : W15.cell? ⟨(W5.heap.size), 1, none⟩ = some (.slice ag00 (ratNegP n00 x000 x001).num.length cg00) := x20.cell 1 rfl
  have Cg0q2 : W15.cell? ⟨(W5.heap.size), 2, none⟩ = some (.slice ag01 (ratNegP n00 x000 x001).den.length cg01) := x20.cell 2 rfl
  have Cg0lt : (W5.heap.size) < W15.heap.size := x20.lt
  go_wp2_with fail
  have f21 := ((((mg0x11.below b12).below b13).below b14).below b15)
  refine (heldRat_own _ _ _ _ _ _ _ _ _ f21 l0 l1 (by omega) (by omega)).mono ?_
  rintro e W16 ⟨rfl, b16⟩
  clear Cg0q0 Cg0q1 Cg0q2 Cg0lt
  have s16 := b16.size
  go_wp2
  go_ret
  have h22 : Below w.heap.size w W16 := (bstep (bstep (bstep (bstep h18 b13) b14) b15) b16)
  exact ⟨rfl, h22⟩

set_option maxRecDepth 100000 in
theorem lifted (os : Os) (started : os.Started) (H : Type) (enc : TypeId × Value → H) :
    ReturnsInHanded {} Try.checked os 11 .any (Rows.fnExactRatNegSpec.pre6 enc Try.prog Try.f11 Rows.fnExactRatNegRow.domain false) (Rows.fnExactRatNegSpec.post enc Try.prog Try.f11 false true false false) := by
  refine returnsInHanded_of_change (C := Try.checked) Try.own started (by kernel_rfl) Try.func11
    (ChangeSpec.witness6 (enc := enc) (C := Try.checked) false ⟨#[], #[.agg #[.bool false, .slice none 0 0, .slice none 0 0]], []⟩ 8 (by kernel_rfl) (by kernel_rfl) (by kernel_rfl) (by kernel_rfl)) ?_
  intro W base args ds gs before hval0 hW hcnd _
  have hval : ∀ (j : Nat) t v, Try.f11.params[j]? = some t → args[j]? = some v → Value.okWide Try.prog W .any base t v := hval0
  have hW' := hW
  obtain ⟨p, q, hA0, hV, rfl, hfz, hnd⟩ := hW
  have hA : DataW.TrodAll enc Try.prog W 0 (fun _ => true) true Try.f11.params.toList args.toList ds p := hA0
  rw [Try.params11] at hA hval
  obtain ⟨v0, vs0, d0, ds0, p0, q0, hargs, rfl, rfl, h0, r0⟩ := trodAll_cons hA
  obtain ⟨rfl, rfl, rfl⟩ := trodAll_nil r0
  obtain rfl : args = #[v0] := by cases args; simp_all
  obtain ⟨rfl, rfl⟩ := trodVars_none hV
  have k0 := h0
  have lt0 : ∀ x ∈ p0, x.block < W.heap.size := by obtain ⟨m, hm⟩ := k0; exact DataW.trod_lt m _ _ _ hm
  obtain ⟨n00, a000, c000, x000, a001, c001, x001, rfl, w000, w001⟩ := rat_of_arg (hval 0 39 v0 rfl rfl) h0
  clear hA0 hval0
  refine (walk n00 a000 c000 x000 a001 c001 x001 W w000 w001).mono fun e W' ⟨he, bel⟩ => ?_
  subst he
  exact ⟨_, rfl, _, _, _, [], _, [], hW', trodAll_mk1 (shut_bool Try.underlying4 _), (trodAll_cons_mk (Below.trod Try.laidOut (by kernel_rfl) (of_decide_eq_true (by kernel_rfl)) k0 bel lt0) trodAll_mk0), rfl, bel.frame _, fun h => by cases h⟩

theorem over : Rows.fnExactRatNegRow.holds Try.pinned (OpenSpec.ofChange Rows.fnExactRatNegSpec) :=
  OpenClaim.holds_of_wide 11 Try.f11 rfl rfl rfl rfl rfl rfl rfl ⟨rfl, rfl, rfl, rfl, rfl⟩ rfl rfl rfl rfl rfl (by kernel_rfl) Try.func11 (closed_ofP may_enter make_cut lifts_final 11 Try.f11 Rows.fnExactRatNegSpec Rows.fnExactRatNegRow prog_facts (by kernel_rfl) rfl rfl)
    (of_decide_eq_true (by kernel_rfl)) (by unfold Func.isWrapper; first | (rw [if_pos (by decide +kernel)]; kernel_rfl) | (rw [if_neg (by decide +kernel)]; exact ⟨rfl, rfl⟩))
    (fun os started H enc _ => lifted os started H enc)

theorem proved : Rows.FnExactRatNegSaid := over
#print axioms proved
end Go.Proofs.Ytlpnhcoaidmiiaa.fnExactRatNeg
