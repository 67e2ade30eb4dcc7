/- For every input the law FnExactBigIntFloorDiv returns true, and its arguments read afterwards as they read before. No condition. -/
import Derived.Deep.RegionHeld3
import Derived.Deep.DeepCutAuto
import Derived.Test.YtcbamiablkbeoaaFrameB
import Derived.Test.YtcbamiablkbeoaaLaws2
import Derived.Test.YtcbamiablkbeoaaFloor
namespace Go.Proofs.Ytcbamiablkbeoaa.fnExactBigIntFloorDiv
set_option linter.unusedVariables false
set_option linter.unusedSimpArgs false
open Go.ChangeShapes Go.WideShapes Go.ChangeAt Go.RowKit
open Go.ChangeMaps (open_string shut_string)

set_option maxRecDepth 100000 in
set_option maxHeartbeats 8000000 in
theorem walk (n00 : Bool) (a000 : Option Addr) (c000 : Nat) (x000 : List Int) (a1 : Option Addr) (c1 : Nat) (x1 : List Int) (w : World) (w000 : IntsAt w a000 c000 x000) (w1 : IntsAt w a1 c1 x1) :
    Calls Try.prog 13 #[.agg #[.bool n00, .slice a000 x000.length c000], .slice a1 x1.length c1] w fun e w' => e = .returned (.bool true) ∧ Below w.heap.size w w' := by
  by_cases n1 : x1.length ≤ 1048576
  case neg =>
    go_enter Try.func13, Try.ntmps13
    go_wp2
    go_ret
    exact ⟨rfl, ba1 _ _⟩
  by_cases g0 : x000.length ≤ 1048576
  case neg =>
    go_enter Try.func13, Try.ntmps13
    go_wp2_with fail
    refine (szBigInt_any n00 _ _ x000 _ _ (by omega) (by omega) w000.len63).mono ?_
    rintro e W1 ⟨rfl, b1⟩
    rw [if_pos (by omega)]
    have s1 := b1.size
    simp at s1
    have Barg0x1 : Box W1 (w.heap.size) #[.bool n00, .slice a000 x000.length c000] := bx1_0 b1
    replace b1 := bstep (ba1 _ _ ) b1
    have h1 : Below w.heap.size w W1 := (bstep (Below.refl _ _) b1)
    go_wp2
    go_ret
    exact ⟨rfl, h1⟩
  have l000 : x000.length ≤ 1048576 := by omega
  have l0 := (fd_len n00 x000 x1).1
  have l1 := (fd_len n00 x000 x1).2
  go_enter Try.func13, Try.ntmps13
  go_wp2_with fail
  refine (szBigInt_any n00 _ _ x000 _ _ (by omega) (by omega) w000.len63).mono ?_
  rintro e W1 ⟨rfl, b1⟩
  rw [if_neg (by omega)]
  have s1 := b1.size
  simp at s1
  have Barg0x1 : Box W1 (w.heap.size) #[.bool n00, .slice a000 x000.length c000] := bx1_0 b1
  replace b1 := bstep (ba1 _ _ ) b1
  have Carg0q0 : W1.cell? ⟨(w.heap.size), 0, none⟩ = some (.bool n00) := Barg0x1.cell 0 rfl
  have Carg0q1 : W1.cell? ⟨(w.heap.size), 1, none⟩ = some (.slice a000 x000.length c000) := Barg0x1.cell 1 rfl
  have Carg0lt : (w.heap.size) < W1.heap.size := Barg0x1.lt
  go_wp2_with fail
  have h1 : Below w.heap.size w W1 := (bstep (Below.refl _ _) b1)
  refine (toBigInt_own n00 _ _ x000 _ (w000.below h1) l000).mono ?_
  rintro e W2 ⟨as00, cs00, rfl, os0, b2⟩
  clear Carg0q0 Carg0q1 Carg0lt
  have s2 := b2.size
  go_wp2_with fail
  have h2 : Below w.heap.size w W2 := (bstep h1 b2)
  refine (toIntS_own _ _ x1 _ (w1.below h2) n1).mono ?_
  rintro e W3 ⟨as10, cs10, rfl, os1, b3⟩
  have s3 := b3.size
  go_wp2_with fail
  have f3 := (os0.below b3)
  refine (specBigIntFloorDiv_any n00 _ _ x000 _ _ x1 _ f3.ints l000 os1.ints n1).mono ?_
  rintro e W4 ⟨at00, ct00, at10, ct10, rfl, it00, it10, b4⟩
  have s4 := b4.size
  have x4 := (box_step (box_step (box_step Barg0x1 b2) b3) b4)
  have Carg0q0 : W4.cell? ⟨(w.heap.size), 0, none⟩ = some (.bool n00) := x4.cell 0 rfl
  have Carg0q1 : W4.cell? ⟨(w.heap.size), 1, none⟩ = some (.slice a000 x000.length c000) := x4.cell 1 rfl
  have Carg0lt : (w.heap.size) < W4.heap.size := x4.lt
  go_wp2_with fail
  refine (toBigInt_own n00 _ _ x000 _ (w000.below (bstep (bstep (bstep h2 b3) b4) (ba1 _ _))) l000).mono ?_
  rintro e W5 ⟨ax00, cx00, rfl, ox0, b5⟩
  clear Carg0q0 Carg0q1 Carg0lt
  have s5 := b5.size
  simp at s5
  have Bt0x5 : Box W5 (W4.heap.size) #[.bool (fdQ n00 x000 x1).neg, .slice at00 (fdQ n00 x000 x1).mag.length ct00] := bx1_0 b5
  replace b5 := bstep (ba1 _ _ ) b5
  replace ox0 := ox0.mono (lo2 := W4.heap.size + 1) (by simp) (Nat.le_refl _)
  go_wp2_with fail
  refine (toIntS_own _ _ x1 _ (w1.below (bstep (bstep (bstep (bstep h2 b3) b4) b5) (ba1 _ _))) n1).mono ?_
  rintro e W6 ⟨ax10, cx10, rfl, ox1, b6⟩
  have s6 := b6.size
  simp at s6
  have Bx0x6 : Box W6 (W5.heap.size) #[.bool n00, .slice ax00 x000.length cx00] := bx1_0 b6
  replace b6 := bstep (ba1 _ _ ) b6
  replace ox1 := ox1.mono (lo2 := W5.heap.size + 1) (by simp) (Nat.le_refl _)
  have Cx0q0 : W6.cell? ⟨(W5.heap.size), 0, none⟩ = some (.bool n00) := Bx0x6.cell 0 rfl
  have Cx0q1 : W6.cell? ⟨(W5.heap.size), 1, none⟩ = some (.slice ax00 x000.length cx00) := Bx0x6.cell 1 rfl
  have Cx0lt : (W5.heap.size) < W6.heap.size := Bx0x6.lt
  go_wp2_with fail
  have f5 := (ox0.below b6)
  refine (implBigIntFloorDiv_any n00 _ _ x000 _ _ x1 _ f5.ints l000 ox1.ints n1).mono ?_
  rintro e W7 ⟨ag00, cg00, ag10, cg10, rfl, ⟨mg, eg0, eg1, og0, og1⟩, b7⟩
  clear Cx0q0 Cx0q1 Cx0lt
  have s7 := b7.size
  try simp at eg0
  have x6 := (box_step (box_step Bt0x5 b6) b7)
  have Ct0q0 : W7.cell? ⟨(W4.heap.size), 0, none⟩ = some (.bool (fdQ n00 x000 x1).neg) := x6.cell 0 rfl
  have Ct0q1 : W7.cell? ⟨(W4.heap.size), 1, none⟩ = some (.slice at00 (fdQ n00 x000 x1).mag.length ct00) := x6.cell 1 rfl
  have Ct0lt : (W4.heap.size) < W7.heap.size := x6.lt
  go_wp2_with fail
  refine (eqBigInt_same ((fdQ n00 x000 x1).neg) _ _ _ _ ((fdQ n00 x000 x1).mag) _ (og0.below (ba1 _ _)).ints (it00.below (bstep (bstep (bstep (bstep (Below.refl _ _) b5) b6) b7) (ba1 _ _))) l0).mono ?_
  rintro e W8 ⟨rfl, b8⟩
  clear Ct0q0 Ct0q1 Ct0lt
  have s8 := b8.size
  simp at s8
  have Bg0x8 : Box W8 (W7.heap.size) #[.bool (fdQ n00 x000 x1).neg, .slice ag00 (fdQ n00 x000 x1).mag.length cg00] := bx1_0 b8
  replace b8 := bstep (ba1 _ _ ) b8
  go_wp2_with fail
  have f7 := (og1.below b8)
  have h8 : Below W4.heap.size W4 W8 := (bstep (bstep (bstep (bstep (Below.refl _ _) b5) b6) b7) b8)
  refine (eqIntS_same _ _ _ _ (fdR n00 x000 x1) _ f7.ints (it10.below h8) l1).mono ?_
  rintro e W9 ⟨rfl, b9⟩
  have s9 := b9.size
  have x9 := (box_step (box_step (box_step Bx0x6 b7) b8) b9)
  have Cx0q0 : W9.cell? ⟨(W5.heap.size), 0, none⟩ = some (.bool n00) := x9.cell 0 rfl
  have Cx0q1 : W9.cell? ⟨(W5.heap.size), 1, none⟩ = some (.slice ax00 x000.length cx00) := x9.cell 1 rfl
  have Cx0lt : (W5.heap.size) < W9.heap.size := x9.lt
  have x10 := (box_step (box_step (box_step (box_step (box_step x4 b5) b6) b7) b8) b9)
  have Carg0q0 : W9.cell? ⟨(w.heap.size), 0, none⟩ = some (.bool n00) := x10.cell 0 rfl
  have Carg0q1 : W9.cell? ⟨(w.heap.size), 1, none⟩ = some (.slice a000 x000.length c000) := x10.cell 1 rfl
  have Carg0lt : (w.heap.size) < W9.heap.size := x10.lt
  go_wp2_with fail
  have h11 : Below w.heap.size w W9 := (bstep (bstep (bstep (bstep (bstep (bstep (bstep h2 b3) b4) b5) b6) b7) b8) b9)
  have f12 := (((f5.below b7).below b8).below b9)
  go_region_held3 (fun w' => w'.cell? ⟨(W5.heap.size), 0, none⟩ = some (.bool n00) ∧ w'.cell? ⟨(W5.heap.size), 1, none⟩ = some (.slice ax00 x000.length cx00) ∧ w'.cell? ⟨(w.heap.size), 0, none⟩ = some (.bool n00) ∧ w'.cell? ⟨(w.heap.size), 1, none⟩ = some (.slice a000 x000.length c000))
    ((first | exact ⟨Cx0q0, Cx0q1, Carg0q0, Carg0q1⟩ | exact ⟨cell_stepD Cx0q0 b10, cell_stepD Cx0q1 b10, cell_stepD Carg0q0 b10, cell_stepD Carg0q1 b10⟩ | exact ⟨cell_step (cell_stepD Cx0q0 b10) b11, cell_step (cell_stepD Cx0q1 b10) b11, cell_step (cell_stepD Carg0q0 b10) b11, cell_step (cell_stepD Carg0q1 b10) b11⟩))
    (first | (go_at_call 35; refine (toBigInt_own n00 _ _ x000 _ (w000.below h11.drew) l000).mono ?_; rintro e W10 ⟨ay00, cy00, rfl, oy0, b10⟩) | (go_at_call 37; refine (eqBigInt_same (n00) _ _ _ _ (x000) _ (((f12).below (Below.refl _ _).drew).below b10).ints oy0.ints l000).mono ?_; rintro e W11 ⟨rfl, b11⟩))
  have s10 := b10.size
  simp at s10
  have s11 := b11.size
  clear Cx0q0 Cx0q1 Cx0lt
  clear Carg0q0 Carg0q1 Carg0lt
  go_wp2_with fail
  have h13 : Below w.heap.size w W11 := (bstep (bstep h11.drew b10) b11)
  refine (toIntS_own _ _ x1 _ (w1.below h13) n1).mono ?_
  rintro e W12 ⟨ay10, cy10, rfl, oy1, b12⟩
  have s12 := b12.size
  go_wp2_with fail
  have f14 := (((((((ox1.below b7).below b8).below b9).below (Below.refl _ _).drew).below b10).below b11).below b12)
  refine (eqIntS_same _ _ _ _ (x1) _ f14.ints oy1.ints n1).mono ?_
  rintro e W13 ⟨rfl, b13⟩
  have s13 := b13.size
  have x15 := (box_step (box_step (box_step (box_step (box_drew x9) b10) b11) b12) b13)
  have Cx0q0 : W13.cell? ⟨(W5.heap.size), 0, none⟩ = some (.bool n00) := x15.cell 0 rfl
  have Cx0q1 : W13.cell? ⟨(W5.heap.size), 1, none⟩ = some (.slice ax00 x000.length cx00) := x15.cell 1 rfl
  have Cx0lt : (W5.heap.size) < W13.heap.size := x15.lt
  go_wp2_with fail
  have f16 := (((((f12.below (Below.refl _ _).drew).below b10).below b11).below b12).below b13)
  refine (markBigInt_own _ _ _ (x000) _ _ f16 (by omega) l000 (by omega) (by omega)).mono ?_
  rintro e W14 ⟨rfl, mx0x14, b14⟩
  have s14 := b14.size
  clear Cx0q0 Cx0q1 Cx0lt
  go_wp2_with fail
  have f17 := ((f14.below b13).span b14 (by omega))
  refine (markIntS_own _ _ (x1) _ _ f17 n1 (by omega) (by omega)).mono ?_
  rintro e W15 ⟨rfl, mx1x15, b15, -⟩
  have s15 := b15.size
  have x18 := (box_span (box_span (box_step (box_step (box_step (box_step (box_drew (box_step Bg0x8 b9)) b10) b11) b12) b13) b14 (by omega)) b15 (by omega))
  have Cg0q0 : W15.cell? ⟨(W7.heap.size), 0, none⟩ = some (.bool (fdQ n00 x000 x1).neg) := x18.cell 0 rfl
  have Cg0q1 : W15.cell? ⟨(W7.heap.size), 1, none⟩ = some (.slice ag00 (fdQ n00 x000 x1).mag.length cg00) := x18.cell 1 rfl
  have Cg0lt : (W7.heap.size) < W15.heap.size := x18.lt
  have x19 := (box_span (box_span (box_step (box_step (box_step (box_step (box_drew (box_step (box_step x6 b8) b9)) b10) b11) b12) b13) b14 (by omega)) b15 (by omega))
  have Ct0q0 : W15.cell? ⟨(W4.heap.size), 0, none⟩ = some (.bool (fdQ n00 x000 x1).neg) := x19.cell 0 rfl
  have Ct0q1 : W15.cell? ⟨(W4.heap.size), 1, none⟩ = some (.slice at00 (fdQ n00 x000 x1).mag.length ct00) := x19.cell 1 rfl
  have Ct0lt : (W4.heap.size) < W15.heap.size := x19.lt
  go_wp2_with fail
  have f20 := (((((((((og0.below b8).below b9).below (Below.refl _ _).drew).below b10).below b11).below b12).below b13).span b14 (by omega)).span b15 (by omega))
  have h21 : Below W4.heap.size W4 W15 := (bspan (bspan (bstep (bstep (bstep (bstep (bstep h8 b9).drew b10) b11) b12) b13) b14 (by omega)) b15 (by omega))
  refine (eqBigInt_same ((fdQ n00 x000 x1).neg) _ _ _ _ ((fdQ n00 x000 x1).mag) _ f20.ints (it00.below h21) l0).mono ?_
  rintro e W16 ⟨rfl, b16⟩
  clear Cg0q0 Cg0q1 Cg0lt
  clear Ct0q0 Ct0q1 Ct0lt
  have s16 := b16.size
  go_wp2_with fail
  have f22 := (((((((((f7.below b9).below (Below.refl _ _).drew).below b10).below b11).below b12).below b13).span b14 (by omega)).span b15 (by omega)).below b16)
  have h23 : Below W4.heap.size W4 W16 := (bstep h21 b16)
  refine (eqIntS_same _ _ _ _ (fdR n00 x000 x1) _ f22.ints (it10.below h23) l1).mono ?_
  rintro e W17 ⟨rfl, b17⟩
  have s17 := b17.size
  have x24 := (box_step (box_step x18 b16) b17)
  have Cg0q0 : W17.cell? ⟨(W7.heap.size), 0, none⟩ = some (.bool (fdQ n00 x000 x1).neg) := x24.cell 0 rfl
  have Cg0q1 : W17.cell? ⟨(W7.heap.size), 1, none⟩ = some (.slice ag00 (fdQ n00 x000 x1).mag.length cg00) := x24.cell 1 rfl
  have Cg0lt : (W7.heap.size) < W17.heap.size := x24.lt
  go_wp2_with fail
  have f25 := ((f20.below b16).below b17)
  refine (markBigInt_own _ _ _ ((fdQ n00 x000 x1).mag) _ _ f25 (by omega) l0 (by omega) (by omega)).mono ?_
  rintro e W18 ⟨rfl, mg0x18, b18⟩
  have s18 := b18.size
  clear Cg0q0 Cg0q1 Cg0lt
  go_wp2_with fail
  have f26 := ((f22.below b17).span b18 (by omega))
  refine (markIntS_own _ _ (fdR n00 x000 x1) _ _ f26 l1 (by omega) (by omega)).mono ?_
  rintro e W19 ⟨rfl, mg1x19, b19, -⟩
  have s19 := b19.size
  have x27 := (box_span (box_span x24 b18 (by omega)) b19 (by omega))
  have Cg0q0 : W19.cell? ⟨(W7.heap.size), 0, none⟩ = some (.bool (fdQ n00 x000 x1).neg) := x27.cell 0 rfl
  have Cg0q1 : W19.cell? ⟨(W7.heap.size), 1, none⟩ = some (.slice ag00 (fdQ n00 x000 x1).mag.length cg00) := x27.cell 1 rfl
  have Cg0lt : (W7.heap.size) < W19.heap.size := x27.lt
  go_wp2_with fail
  have f28 := (mg0x18.span b19 (by omega))
  refine (heldBigInt_own _ _ _ _ _ _ f28 l0 (by omega) (by omega)).mono ?_
  rintro e W20 ⟨rfl, b20⟩
  clear Cg0q0 Cg0q1 Cg0lt
  have s20 := b20.size
  go_wp2_with fail
  have f29 := (mg1x19.below b20)
  refine (heldIntS_own2 _ _ _ _ _ f29 l1 (by omega) (by omega)).mono ?_
  rintro e W21 ⟨rfl, b21⟩
  have s21 := b21.size
  have x30 := (box_step (box_step (box_span (box_span (box_step (box_step (box_span (box_span (box_step (box_step (box_step (box_step (box_drew x10) b10) b11) b12) b13) b14 (by omega)) b15 (by omega)) b16) b17) b18 (by omega)) b19 (by omega)) b20) b21)
  have Carg0q0 : W21.cell? ⟨(w.heap.size), 0, none⟩ = some (.bool n00) := x30.cell 0 rfl
  have Carg0q1 : W21.cell? ⟨(w.heap.size), 1, none⟩ = some (.slice a000 x000.length c000) := x30.cell 1 rfl
  have Carg0lt : (w.heap.size) < W21.heap.size := x30.lt
  go_wp2_with fail
  have h31 : Below w.heap.size w W21 := (bstep (bstep (bspan (bspan (bstep (bstep (bspan (bspan (bstep (bstep h13 b12) b13) b14 (by omega)) b15 (by omega)) b16) b17) b18 (by omega)) b19 (by omega)) b20) b21)
  refine (toBigInt_own n00 _ _ x000 _ (w000.below h31) l000).mono ?_
  rintro e W22 ⟨az00, cz00, rfl, oz0, b22⟩
  clear Carg0q0 Carg0q1 Carg0lt
  have s22 := b22.size
  go_wp2_with fail
  have h32 : Below w.heap.size w W22 := (bstep h31 b22)
  refine (toIntS_own _ _ x1 _ (w1.below h32) n1).mono ?_
  rintro e W23 ⟨az10, cz10, rfl, oz1, b23⟩
  have s23 := b23.size
  go_wp2_with fail
  have f33 := (oz0.below b23)
  refine (implBigIntFloorDiv_any n00 _ _ x000 _ _ x1 _ f33.ints l000 oz1.ints n1).mono ?_
  rintro e W24 ⟨ah00, ch00, ah10, ch10, rfl, ⟨mh, eh0, eh1, oh0, oh1⟩, b24⟩
  have s24 := b24.size
  try simp at eh0
  have x34 := (box_step (box_step (box_step (box_step (box_step (box_span (box_span (box_step (box_step x19 b16) b17) b18 (by omega)) b19 (by omega)) b20) b21) b22) b23) b24)
  have Ct0q0 : W24.cell? ⟨(W4.heap.size), 0, none⟩ = some (.bool (fdQ n00 x000 x1).neg) := x34.cell 0 rfl
  have Ct0q1 : W24.cell? ⟨(W4.heap.size), 1, none⟩ = some (.slice at00 (fdQ n00 x000 x1).mag.length ct00) := x34.cell 1 rfl
  have Ct0lt : (W4.heap.size) < W24.heap.size := x34.lt
  go_wp2_with fail
  refine (eqBigInt_same ((fdQ n00 x000 x1).neg) _ _ _ _ ((fdQ n00 x000 x1).mag) _ (oh0.below (ba1 _ _)).ints (it00.below (bstep (bstep (bstep (bstep (bstep (bstep (bspan (bspan (bstep h23 b17) b18 (by omega)) b19 (by omega)) b20) b21) b22) b23) b24) (ba1 _ _))) l0).mono ?_
  rintro e W25 ⟨rfl, b25⟩
  clear Ct0q0 Ct0q1 Ct0lt
  have s25 := b25.size
  simp at s25
  have Bh0x25 : Box W25 (W24.heap.size) #[.bool (fdQ n00 x000 x1).neg, .slice ah00 (fdQ n00 x000 x1).mag.length ch00] := bx1_0 b25
  replace b25 := bstep (ba1 _ _ ) b25
  go_wp2_with fail
  have f35 := (oh1.below b25)
  have h36 : Below W4.heap.size W4 W25 := (bstep (bstep (bstep (bstep (bstep (bstep (bspan (bspan (bstep h23 b17) b18 (by omega)) b19 (by omega)) b20) b21) b22) b23) b24) b25)
  refine (eqIntS_same _ _ _ _ (fdR n00 x000 x1) _ f35.ints (it10.below h36) l1).mono ?_
  rintro e W26 ⟨rfl, b26⟩
  have s26 := b26.size
  have x37 := (box_step (box_step (box_step (box_step (box_step (box_step (box_step x27 b20) b21) b22) b23) b24) b25) b26)
  have Cg0q0 : W26.cell? ⟨(W7.heap.size), 0, none⟩ = some (.bool (fdQ n00 x000 x1).neg) := x37.cell 0 rfl
  have Cg0q1 : W26.cell? ⟨(W7.heap.size), 1, none⟩ = some (.slice ag00 (fdQ n00 x000 x1).mag.length cg00) := x37.cell 1 rfl
  have Cg0lt : (W7.heap.size) < W26.heap.size := x37.lt
  go_wp2_with fail
  have f38 := (((((((f28.below b20).below b21).below b22).below b23).below b24).below b25).below b26)
  refine (heldBigInt_own _ _ _ _ _ _ f38 l0 (by omega) (by omega)).mono ?_
  rintro e W27 ⟨rfl, b27⟩
  clear Cg0q0 Cg0q1 Cg0lt
  have s27 := b27.size
  go_wp2_with fail
  have f39 := (((((((f29.below b21).below b22).below b23).below b24).below b25).below b26).below b27)
  refine (heldIntS_own2 _ _ _ _ _ f39 l1 (by omega) (by omega)).mono ?_
  rintro e W28 ⟨rfl, b28⟩
  have s28 := b28.size
  go_wp2
  go_ret
  have h40 : Below w.heap.size w W28 := (bstep (bstep (bstep (bstep (bstep (bstep h32 b23) b24) b25) b26) b27) b28)
  exact ⟨rfl, h40⟩

set_option maxRecDepth 100000 in
theorem lifted (os : Os) (started : os.Started) (H : Type) (enc : TypeId × Value → H) :
    ReturnsInHanded {} Try.checked os 13 .any (Rows.fnExactBigIntFloorDivSpec.pre6 enc Try.prog Try.f13 Rows.fnExactBigIntFloorDivRow.domain false) (Rows.fnExactBigIntFloorDivSpec.post enc Try.prog Try.f13 false true false false) := by
  refine returnsInHanded_of_change (C := Try.checked) Try.own started (by kernel_rfl) Try.func13
    (ChangeSpec.witness6 (enc := enc) (C := Try.checked) false ⟨#[], #[.agg #[.bool false, .slice none 0 0], .slice none 0 0], []⟩ 8 (by kernel_rfl) (by kernel_rfl) (by kernel_rfl) (by kernel_rfl)) ?_
  intro W base args ds gs before hval0 hW hcnd _
  have hval : ∀ (j : Nat) t v, Try.f13.params[j]? = some t → args[j]? = some v → Value.okWide Try.prog W .any base t v := hval0
  have hW' := hW
  obtain ⟨p, q, hA0, hV, rfl, hfz, hnd⟩ := hW
  have hA : DataW.TrodAll enc Try.prog W 0 (fun _ => true) true Try.f13.params.toList args.toList ds p := hA0
  rw [Try.params13] at hA hval
  obtain ⟨v0, vs0, d0, ds0, p0, q0, hargs, rfl, rfl, h0, r0⟩ := trodAll_cons hA
  obtain ⟨v1, vs1, d1, ds1, p1, q1, rfl, rfl, rfl, h1, r1⟩ := trodAll_cons r0
  obtain ⟨rfl, rfl, rfl⟩ := trodAll_nil r1
  obtain rfl : args = #[v0, v1] := by cases args; simp_all
  obtain ⟨rfl, rfl⟩ := trodVars_none hV
  have k0 := h0
  have lt0 : ∀ x ∈ p0, x.block < W.heap.size := by obtain ⟨m, hm⟩ := k0; exact DataW.trod_lt m _ _ _ hm
  obtain ⟨n00, a000, c000, x000, rfl, w000⟩ := bigInt_of_arg (hval 0 34 v0 rfl rfl) h0
  have k1 := h1
  have lt1 : ∀ x ∈ p1, x.block < W.heap.size := by obtain ⟨m, hm⟩ := k1; exact DataW.trod_lt m _ _ _ hm
  obtain ⟨a1, c1, x1, rfl, w1⟩ := ints_of_arg (hval 1 27 v1 rfl rfl) h1
  clear hA0 hval0
  refine (walk n00 a000 c000 x000 a1 c1 x1 W w000 w1).mono fun e W' ⟨he, bel⟩ => ?_
  subst he
  exact ⟨_, rfl, _, _, _, [], _, [], hW', trodAll_mk1 (shut_bool Try.underlying4 _), (trodAll_cons_mk (Below.trod Try.laidOut (by kernel_rfl) (of_decide_eq_true (by kernel_rfl)) k0 bel lt0) (trodAll_cons_mk (Below.trod Try.laidOut (by kernel_rfl) (of_decide_eq_true (by kernel_rfl)) k1 bel lt1) trodAll_mk0)), rfl, bel.frame _, fun h => by cases h⟩

theorem over : Rows.fnExactBigIntFloorDivRow.holds Try.pinned (OpenSpec.ofChange Rows.fnExactBigIntFloorDivSpec) :=
  OpenClaim.holds_of_wide 13 Try.f13 rfl rfl rfl rfl rfl rfl rfl ⟨rfl, rfl, rfl, rfl, rfl⟩ rfl rfl rfl rfl rfl (by kernel_rfl) Try.func13 (closed_of 13 Try.f13 Rows.fnExactBigIntFloorDivSpec Rows.fnExactBigIntFloorDivRow prog_facts (by kernel_rfl) rfl rfl)
    (of_decide_eq_true (by kernel_rfl)) (by unfold Func.isWrapper; first | (rw [if_pos (by decide +kernel)]; kernel_rfl) | (rw [if_neg (by decide +kernel)]; exact ⟨rfl, rfl⟩))
    (fun os started H enc _ => lifted os started H enc)

theorem proved : Rows.FnExactBigIntFloorDivSaid := over
#print axioms proved
end Go.Proofs.Ytcbamiablkbeoaa.fnExactBigIntFloorDiv
