/- Points: reading, copying, marking; the reference. -/
import Derived.Test.YtjklefkkdaelnaaGreatDoorTyR
import Derived.Deep.RegionHeld3
import Derived.Test.YtjklefkkdaelnaaGreatDoorRatA
namespace Go.Proofs.YtjklefkkdaelnaaGreatDoor
set_option linter.unusedVariables false
set_option linter.unusedSimpArgs false
open Go.RowKit

set_option maxHeartbeats 2000000 in
theorem szPoint_any (pn0 : Bool) (pa0 : Option Addr) (pc0 : Nat) (px0 : List Int) (pa1 : Option Addr) (pc1 : Nat) (px1 : List Int) (pn1 : Bool) (pa2 : Option Addr) (pc2 : Nat) (px2 : List Int) (pa3 : Option Addr) (pc3 : Nat) (px3 : List Int) (k : Int) (w : World) (hk0 : 0 ≤ k) (hk1 : k ≤ 1048576) (h0 : px0.length ≤ 9223372036854775807) (h1 : px1.length ≤ 9223372036854775807) (h2 : px2.length ≤ 9223372036854775807) (h3 : px3.length ≤ 9223372036854775807) :
    Calls Tryz.prog 6 #[.agg #[.bool pn0, .slice pa0 px0.length pc0, .slice pa1 px1.length pc1, .bool pn1, .slice pa2 px2.length pc2, .slice pa3 px3.length pc3], .int .i64 k] w fun e w' => e = .returned (.int .i64 (if k - (px0.length + px1.length + px2.length + px3.length : Nat) < 0 then -1 else k - (px0.length + px1.length + px2.length + px3.length : Nat))) ∧ Below w.heap.size w w' := by
  by_cases h5 : k - (px0.length + px1.length : Nat) < 0
  · rw [if_pos (by omega)]
    go_enter Tryz.func6, Tryz.ntmps6
    go_wp2_with fail
    refine (szRat_any pn0 pa0 pc0 px0 pa1 pc1 px1 k _ hk0 hk1 h0 h1).mono ?_
    rintro e W1 ⟨rfl, b1⟩
    have Rx := bx1_0 b1
    have B := Lib.hid (bstep (ba1 _ _) b1)
    have sb1 := b1.size
    try simp at sb1
    have Yx0 := Rx.cell 0 rfl
    have Yx1 := Rx.cell 1 rfl
    have Yx2 := Rx.cell 2 rfl
    have Yx3 := Rx.cell 3 rfl
    have Yx4 := Rx.cell 4 rfl
    have Yx5 := Rx.cell 5 rfl
    have Lx := Rx.lt
    clear b1
    rw [if_pos (by omega)]
    go_wp2
    go_ret
    exact ⟨rfl, B.out⟩
  · by_cases h6 : k - (px0.length + px1.length + px2.length + px3.length : Nat) < 0
    · rw [if_pos h6]
      go_enter Tryz.func6, Tryz.ntmps6
      go_wp2_with fail
      refine (szRat_any pn0 pa0 pc0 px0 pa1 pc1 px1 k _ hk0 hk1 h0 h1).mono ?_
      rintro e W2 ⟨rfl, b2⟩
      have Rx := bx1_0 b2
      have B := Lib.hid (bstep (ba1 _ _) b2)
      have sb2 := b2.size
      try simp at sb2
      have Yx0 := Rx.cell 0 rfl
      have Yx1 := Rx.cell 1 rfl
      have Yx2 := Rx.cell 2 rfl
      have Yx3 := Rx.cell 3 rfl
      have Yx4 := Rx.cell 4 rfl
      have Yx5 := Rx.cell 5 rfl
      have Lx := Rx.lt
      clear b2
      rw [if_neg (by omega)]
      go_wp2_with fail
      refine (szRat_any pn1 pa2 pc2 px2 pa3 pc3 px3 (k - (px0.length + px1.length : Nat)) _ (by omega) (by omega) h2 h3).mono ?_
      rintro e W3 ⟨rfl, b3⟩
      clear Yx0 Yx1 Yx2 Yx3 Yx4 Yx5 Lx
      have Rx := box_step Rx b3
      have B := Lib.hid (bstep B.out b3)
      have sb3 := b3.size
      have Yx0 := Rx.cell 0 rfl
      have Yx1 := Rx.cell 1 rfl
      have Yx2 := Rx.cell 2 rfl
      have Yx3 := Rx.cell 3 rfl
      have Yx4 := Rx.cell 4 rfl
      have Yx5 := Rx.cell 5 rfl
      have Lx := Rx.lt
      clear b3
      rw [if_pos (by omega)]
      go_wp2
      go_ret
      exact ⟨rfl, B.out⟩
    · rw [if_neg h6]
      have e : k - (px0.length + px1.length : Nat) - (px2.length + px3.length : Nat) = k - (px0.length + px1.length + px2.length + px3.length : Nat) := by omega
      have HE := Lib.hid e
      clear e
      go_enter Tryz.func6, Tryz.ntmps6
      go_wp2_with fail
      refine (szRat_any pn0 pa0 pc0 px0 pa1 pc1 px1 k _ hk0 hk1 h0 h1).mono ?_
      rintro e W4 ⟨rfl, b4⟩
      have Rx := bx1_0 b4
      have B := Lib.hid (bstep (ba1 _ _) b4)
      have sb4 := b4.size
      try simp at sb4
      have Yx0 := Rx.cell 0 rfl
      have Yx1 := Rx.cell 1 rfl
      have Yx2 := Rx.cell 2 rfl
      have Yx3 := Rx.cell 3 rfl
      have Yx4 := Rx.cell 4 rfl
      have Yx5 := Rx.cell 5 rfl
      have Lx := Rx.lt
      clear b4
      rw [if_neg (by omega)]
      go_wp2_with fail
      refine (szRat_any pn1 pa2 pc2 px2 pa3 pc3 px3 (k - (px0.length + px1.length : Nat)) _ (by omega) (by omega) h2 h3).mono ?_
      rintro e W5 ⟨rfl, b5⟩
      clear Yx0 Yx1 Yx2 Yx3 Yx4 Yx5 Lx
      have Rx := box_step Rx b5
      have B := Lib.hid (bstep B.out b5)
      have sb5 := b5.size
      have Yx0 := Rx.cell 0 rfl
      have Yx1 := Rx.cell 1 rfl
      have Yx2 := Rx.cell 2 rfl
      have Yx3 := Rx.cell 3 rfl
      have Yx4 := Rx.cell 4 rfl
      have Yx5 := Rx.cell 5 rfl
      have Lx := Rx.lt
      clear b5
      rw [if_neg (by omega)]
      go_wp2
      go_ret
      exact ⟨ret_int HE.out, B.out⟩

set_option maxHeartbeats 4000000 in
theorem toPoint_own (pn0 : Bool) (pa0 : Option Addr) (pc0 : Nat) (px0 : List Int) (pa1 : Option Addr) (pc1 : Nat) (px1 : List Int) (pn1 : Bool) (pa2 : Option Addr) (pc2 : Nat) (px2 : List Int) (pa3 : Option Addr) (pc3 : Nat) (px3 : List Int) (w : World) (i0 : IntsAt w pa0 pc0 px0) (h0 : px0.length ≤ 1048576) (i1 : IntsAt w pa1 pc1 px1) (h1 : px1.length ≤ 1048576) (i2 : IntsAt w pa2 pc2 px2) (h2 : px2.length ≤ 1048576) (i3 : IntsAt w pa3 pc3 px3) (h3 : px3.length ≤ 1048576) :
    Calls Tryz.prog 8 #[.agg #[.bool pn0, .slice pa0 px0.length pc0, .slice pa1 px1.length pc1, .bool pn1, .slice pa2 px2.length pc2, .slice pa3 px3.length pc3]] w fun e w' => ∃ a0 c0 a1 c1 a2 c2 a3 c3, e = .returned (.agg #[.bool pn0, .slice a0 px0.length c0, .slice a1 px1.length c1, .bool pn1, .slice a2 px2.length c2, .slice a3 px3.length c3]) ∧
      Four w' w.heap.size w'.heap.size (.slice a0 px0.length c0) (.slice a1 px1.length c1) (.slice a2 px2.length c2) (.slice a3 px3.length c3) px0 px1 px2 px3 ∧ Below w.heap.size w w' := by
  have I0 := Lib.hid i0
  have I1 := Lib.hid i1
  have I2 := Lib.hid i2
  have I3 := Lib.hid i3
  clear i0 i1 i2 i3
  go_enter Tryz.func8, Tryz.ntmps8
  go_wp2_with fail
  refine (toRat_own pn0 pa0 pc0 px0 pa1 pc1 px1 _ (I0.out.below (ba3 _ _ _ _)) h0 (I1.out.below (ba3 _ _ _ _)) h1).mono ?_
  rintro e W6 ⟨a0, c0, a1, c1, rfl, hO, b6⟩
  have Rx := bx3_0 b6
  have Rr := bx3_1 b6
  have Ro := bx3_2 b6
  have B := Lib.hid (bstep (ba3 _ _ _ _) b6)
  have sb6 := b6.size
  try simp at sb6
  have O := Lib.hid hO
  clear hO
  have Yx0 := Rx.cell 0 rfl
  have Yx1 := Rx.cell 1 rfl
  have Yx2 := Rx.cell 2 rfl
  have Yx3 := Rx.cell 3 rfl
  have Yx4 := Rx.cell 4 rfl
  have Yx5 := Rx.cell 5 rfl
  have Lx := Rx.lt
  have Yr0 := Rr.cell 0 rfl
  have Yr1 := Rr.cell 1 rfl
  have Yr2 := Rr.cell 2 rfl
  have Yr3 := Rr.cell 3 rfl
  have Yr4 := Rr.cell 4 rfl
  have Yr5 := Rr.cell 5 rfl
  have Lr := Rr.lt
  have Fr0 := Rr.frozen 0
  have Fr1 := Rr.frozen 1
  have Fr2 := Rr.frozen 2
  have Fr3 := Rr.frozen 3
  have Fr4 := Rr.frozen 4
  have Fr5 := Rr.frozen 5
  have Yo0 := Ro.cell 0 rfl
  have Yo1 := Ro.cell 1 rfl
  have Yo2 := Ro.cell 2 rfl
  have Yo3 := Ro.cell 3 rfl
  have Yo4 := Ro.cell 4 rfl
  have Yo5 := Ro.cell 5 rfl
  have Lo := Ro.lt
  have Fo0 := Ro.frozen 0
  have Fo1 := Ro.frozen 1
  have Fo2 := Ro.frozen 2
  have Fo3 := Ro.frozen 3
  have Fo4 := Ro.frozen 4
  have Fo5 := Ro.frozen 5
  clear b6
  go_wp2_with fail
  refine (toRat_own pn1 pa2 pc2 px2 pa3 pc3 px3 _ (I2.out.below (below_put (R := w.heap.size + 2) (k := 2) (below_put (R := w.heap.size + 2) (k := 1) (below_put (R := w.heap.size + 2) (k := 0) B.out (by first | omega | (simp; done) | (simp; omega))) (by first | omega | (simp; done) | (simp; omega))) (by first | omega | (simp; done) | (simp; omega)))) h2 (I3.out.below (below_put (R := w.heap.size + 2) (k := 2) (below_put (R := w.heap.size + 2) (k := 1) (below_put (R := w.heap.size + 2) (k := 0) B.out (by first | omega | (simp; done) | (simp; omega))) (by first | omega | (simp; done) | (simp; omega))) (by first | omega | (simp; done) | (simp; omega)))) h3).mono ?_
  rintro e W7 ⟨a2, c2, a3, c3, rfl, hQ, b7⟩
  clear Yx0 Yx1 Yx2 Yx3 Yx4 Yx5 Lx Yr0 Yr1 Yr2 Yr3 Yr4 Yr5 Lr Fr0 Fr1 Fr2 Fr3 Fr4 Fr5 Yo0 Yo1 Yo2 Yo3 Yo4 Yo5 Lo Fo0 Fo1 Fo2 Fo3 Fo4 Fo5
  have Rx := box_step (box_other (R := w.heap.size + 2) (k := 2) (box_other (R := w.heap.size + 2) (k := 1) (box_other (R := w.heap.size + 2) (k := 0) Rx (by first | omega | (simp; done) | (simp; omega))) (by first | omega | (simp; done) | (simp; omega))) (by first | omega | (simp; done) | (simp; omega))) b7
  have Rr := box_step (box_other (R := w.heap.size + 2) (k := 2) (box_other (R := w.heap.size + 2) (k := 1) (box_other (R := w.heap.size + 2) (k := 0) Rr (by first | omega | (simp; done) | (simp; omega))) (by first | omega | (simp; done) | (simp; omega))) (by first | omega | (simp; done) | (simp; omega))) b7
  have Ro : Box W7 (w.heap.size + 2) #[.bool pn0, .slice a0 px0.length c0, .slice a1 px1.length c1, .bool false, .slice none 0 0, .slice none 0 0] := box_as (box_step (box_put (k := 2) (box_put (k := 1) (box_put (k := 0) Ro))) b7) rfl
  have B := Lib.hid (bstep (below_put (R := w.heap.size + 2) (k := 2) (below_put (R := w.heap.size + 2) (k := 1) (below_put (R := w.heap.size + 2) (k := 0) B.out (by first | omega | (simp; done) | (simp; omega))) (by first | omega | (simp; done) | (simp; omega))) (by first | omega | (simp; done) | (simp; omega))) b7)
  have O := Lib.hid ((((O.out.put (R := w.heap.size + 2) (k := 0) (by first | omega | (simp; done) | (simp; omega))).put (R := w.heap.size + 2) (k := 1) (by first | omega | (simp; done) | (simp; omega))).put (R := w.heap.size + 2) (k := 2) (by first | omega | (simp; done) | (simp; omega))).below b7)
  have sb7 := b7.size
  try simp at sb7
  have Q := Lib.hid hQ
  clear hQ
  have Yx0 := Rx.cell 0 rfl
  have Yx1 := Rx.cell 1 rfl
  have Yx2 := Rx.cell 2 rfl
  have Yx3 := Rx.cell 3 rfl
  have Yx4 := Rx.cell 4 rfl
  have Yx5 := Rx.cell 5 rfl
  have Lx := Rx.lt
  have Yr0 := Rr.cell 0 rfl
  have Yr1 := Rr.cell 1 rfl
  have Yr2 := Rr.cell 2 rfl
  have Yr3 := Rr.cell 3 rfl
  have Yr4 := Rr.cell 4 rfl
  have Yr5 := Rr.cell 5 rfl
  have Lr := Rr.lt
  have Fr0 := Rr.frozen 0
  have Fr1 := Rr.frozen 1
  have Fr2 := Rr.frozen 2
  have Fr3 := Rr.frozen 3
  have Fr4 := Rr.frozen 4
  have Fr5 := Rr.frozen 5
  have Yo0 := Ro.cell 0 rfl
  have Yo1 := Ro.cell 1 rfl
  have Yo2 := Ro.cell 2 rfl
  have Yo3 := Ro.cell 3 rfl
  have Yo4 := Ro.cell 4 rfl
  have Yo5 := Ro.cell 5 rfl
  have Lo := Ro.lt
  have Fo0 := Ro.frozen 0
  have Fo1 := Ro.frozen 1
  have Fo2 := Ro.frozen 2
  have Fo3 := Ro.frozen 3
  have Fo4 := Ro.frozen 4
  have Fo5 := Ro.frozen 5
  clear b7
  go_wp2
  refine bodyPost_ret (v := .agg #[.bool pn0, .slice a0 px0.length c0, .slice a1 px1.length c1, .bool pn1, .slice a2 px2.length c2, .slice a3 px3.length c3]) (by simp [results, Tryz.results8, go_sem, Yr0, Yr1, Yr2, Yr3, Yr4, Yr5, Yo0, Yo1, Yo2, Yo3, Yo4, Yo5, Lr, Lo]) rfl ⟨a0, c0, a1, c1, a2, c2, a3, c3, rfl, ?_⟩
  exact point_endR (R := w.heap.size + 1) (lo := w.heap.size + 3) (hi := W7.heap.size) (by omega) (by omega) ((((Four.of O.out Q.out (by first | omega | (simp; done) | (simp; omega)) (by first | omega | (simp; done) | (simp; omega)) (by first | omega | (simp; done) | (simp; omega)) (by first | omega | (simp; done) | (simp; omega)) (by first | omega | (simp; done) | (simp; omega))).put (R := w.heap.size + 2) (by omega)).put (R := w.heap.size + 2) (by omega)).put (R := w.heap.size + 2) (by omega)) (by simp) (below_put (below_put (below_put B.out (by omega)) (by omega)) (by omega))

set_option maxHeartbeats 4000000 in
theorem eqPoint_same (pn0 pn1 : Bool) (a0 : Option Addr) (c0 : Nat) (b0 : Option Addr) (d0 : Nat) (px0 : List Int) (a1 : Option Addr) (c1 : Nat) (b1 : Option Addr) (d1 : Nat) (px1 : List Int) (a2 : Option Addr) (c2 : Nat) (b2 : Option Addr) (d2 : Nat) (px2 : List Int) (a3 : Option Addr) (c3 : Nat) (b3 : Option Addr) (d3 : Nat) (px3 : List Int) (w : World) (i0 : IntsAt w a0 c0 px0) (j0 : IntsAt w b0 d0 px0) (h0 : px0.length ≤ 1048576) (i1 : IntsAt w a1 c1 px1) (j1 : IntsAt w b1 d1 px1) (h1 : px1.length ≤ 1048576) (i2 : IntsAt w a2 c2 px2) (j2 : IntsAt w b2 d2 px2) (h2 : px2.length ≤ 1048576) (i3 : IntsAt w a3 c3 px3) (j3 : IntsAt w b3 d3 px3) (h3 : px3.length ≤ 1048576) :
    Calls Tryz.prog 10 #[.agg #[.bool pn0, .slice a0 px0.length c0, .slice a1 px1.length c1, .bool pn1, .slice a2 px2.length c2, .slice a3 px3.length c3], .agg #[.bool pn0, .slice b0 px0.length d0, .slice b1 px1.length d1, .bool pn1, .slice b2 px2.length d2, .slice b3 px3.length d3]] w fun e w' => e = .returned (.bool true) ∧ Below w.heap.size w w' := by
  have I0 := Lib.hid i0
  have J0 := Lib.hid j0
  have I1 := Lib.hid i1
  have J1 := Lib.hid j1
  have I2 := Lib.hid i2
  have J2 := Lib.hid j2
  have I3 := Lib.hid i3
  have J3 := Lib.hid j3
  clear i0 j0 i1 j1 i2 j2 i3 j3
  go_enter Tryz.func10, Tryz.ntmps10
  go_wp2_with fail
  refine (eqRat_same pn0 a0 c0 b0 d0 px0 a1 c1 b1 d1 px1 _ (I0.out.below (ba2 _ _ _)) (J0.out.below (ba2 _ _ _)) h0 (I1.out.below (ba2 _ _ _)) (J1.out.below (ba2 _ _ _)) h1).mono ?_
  rintro e W8 ⟨rfl, b8⟩
  have Rx := bx2_0 b8
  have Ry := bx2_1 b8
  have B := Lib.hid (bstep (ba2 _ _ _) b8)
  have sb8 := b8.size
  try simp at sb8
  have Yx0 := Rx.cell 0 rfl
  have Yx1 := Rx.cell 1 rfl
  have Yx2 := Rx.cell 2 rfl
  have Yx3 := Rx.cell 3 rfl
  have Yx4 := Rx.cell 4 rfl
  have Yx5 := Rx.cell 5 rfl
  have Lx := Rx.lt
  have Yy0 := Ry.cell 0 rfl
  have Yy1 := Ry.cell 1 rfl
  have Yy2 := Ry.cell 2 rfl
  have Yy3 := Ry.cell 3 rfl
  have Yy4 := Ry.cell 4 rfl
  have Yy5 := Ry.cell 5 rfl
  have Ly := Ry.lt
  clear b8
  go_wp2_with fail
  refine (eqRat_same pn1 a2 c2 b2 d2 px2 a3 c3 b3 d3 px3 _ (I2.out.below B.out) (J2.out.below B.out) h2 (I3.out.below B.out) (J3.out.below B.out) h3).mono ?_
  rintro e W9 ⟨rfl, b9⟩
  clear Yx0 Yx1 Yx2 Yx3 Yx4 Yx5 Lx Yy0 Yy1 Yy2 Yy3 Yy4 Yy5 Ly
  have Rx := box_step Rx b9
  have Ry := box_step Ry b9
  have B := Lib.hid (bstep B.out b9)
  have sb9 := b9.size
  have Yx0 := Rx.cell 0 rfl
  have Yx1 := Rx.cell 1 rfl
  have Yx2 := Rx.cell 2 rfl
  have Yx3 := Rx.cell 3 rfl
  have Yx4 := Rx.cell 4 rfl
  have Yx5 := Rx.cell 5 rfl
  have Lx := Rx.lt
  have Yy0 := Ry.cell 0 rfl
  have Yy1 := Ry.cell 1 rfl
  have Yy2 := Ry.cell 2 rfl
  have Yy3 := Ry.cell 3 rfl
  have Yy4 := Ry.cell 4 rfl
  have Yy5 := Ry.cell 5 rfl
  have Ly := Ry.lt
  clear b9
  go_wp2
  go_ret
  exact ⟨rfl, B.out⟩

/-- marks of four rows -/
def MFour (w : World) (lo hi : Nat) (u v u2 v2 : Value) (n m n2 m2 : Nat) (k : Int) : Prop := ∃ q, lo ≤ q ∧ q ≤ hi ∧ MTwo w lo q u v n m k ∧ MTwo w q hi u2 v2 n2 m2 (k + (n + m : Nat))
theorem MFour.below {w w' : World} {lo hi n m n2 m2 : Nat} {u v u2 v2 : Value} {k : Int} (h : MFour w lo hi u v u2 v2 n m n2 m2 k) (b : Below w.heap.size w w') : MFour w' lo hi u v u2 v2 n m n2 m2 k := let ⟨q, h1, h2, h3, h4⟩ := h; ⟨q, h1, h2, h3.below b, h4.below b⟩
theorem MFour.span {w w' : World} {lo hi lo2 hi2 n m n2 m2 : Nat} {u v u2 v2 : Value} {k : Int} (h : MFour w lo hi u v u2 v2 n m n2 m2 k) (s : Span lo2 hi2 w w') (ho : hi ≤ lo2 ∨ hi2 ≤ lo) : MFour w' lo hi u v u2 v2 n m n2 m2 k :=
  let ⟨q, h1, h2, h3, h4⟩ := h; ⟨q, h1, h2, h3.span s (by omega), h4.span s (by omega)⟩

open Go.RowKit

section
variable {w : World} {B : Nat} {v0 v1 v2 v3 v4 v5 : Value} {l : List Value}
theorem Box.c0 (h : Box w B (v0 :: l).toArray) : w.cell? ⟨B, 0, none⟩ = some v0 := h.cell 0 (by simp)
theorem Box.c1 (h : Box w B (v0 :: v1 :: l).toArray) : w.cell? ⟨B, 1, none⟩ = some v1 := h.cell 1 (by simp)
theorem Box.c2 (h : Box w B (v0 :: v1 :: v2 :: l).toArray) : w.cell? ⟨B, 2, none⟩ = some v2 := h.cell 2 (by simp)
theorem Box.c3 (h : Box w B (v0 :: v1 :: v2 :: v3 :: l).toArray) : w.cell? ⟨B, 3, none⟩ = some v3 := h.cell 3 (by simp)
theorem Box.c4 (h : Box w B (v0 :: v1 :: v2 :: v3 :: v4 :: l).toArray) : w.cell? ⟨B, 4, none⟩ = some v4 := h.cell 4 (by simp)
theorem Box.c5 (h : Box w B (v0 :: v1 :: v2 :: v3 :: v4 :: v5 :: l).toArray) : w.cell? ⟨B, 5, none⟩ = some v5 := h.cell 5 (by simp)
end
def LenRA (r : RA) : Prop := r.num.length ≤ 1048576 ∧ r.den.length ≤ 1048576
structure LenPT (p : PT) : Prop where
  x : LenRA p.x
  y : LenRA p.y
theorem RaOr.len' {r : RA} (h : RaOr r) : LenRA r := h.len
theorem PtOr.len' {p : PT} (h : PtOr p) : LenPT p := ⟨h.1.len, h.2.len⟩
def pt (n : Bool) (xs ds : List Int) (m : Bool) (ys es : List Int) : PT := ⟨⟨n, xs, ds⟩, ⟨m, ys, es⟩⟩
theorem ptF_end {w w2 : World} {lo R : Nat} {u v u2 v2 : Value} {xs ys xs2 ys2 : List Int} {y0 y1 y2 y3 y4 y5 : Value} (hR : w.heap.size ≤ R) (hlo : R < lo) (h : FourF w2 lo u v u2 v2 xs ys xs2 ys2) (b : Below w.heap.size w w2) :
    FourF ((((((w2.setCell ⟨R, 0, none⟩ y0).setCell ⟨R, 1, none⟩ y1).setCell ⟨R, 2, none⟩ y2).setCell ⟨R, 3, none⟩ y3).setCell ⟨R, 4, none⟩ y4).setCell ⟨R, 5, none⟩ y5) w.heap.size u v u2 v2 xs ys xs2 ys2 ∧
      Below w.heap.size w ((((((w2.setCell ⟨R, 0, none⟩ y0).setCell ⟨R, 1, none⟩ y1).setCell ⟨R, 2, none⟩ y2).setCell ⟨R, 3, none⟩ y3).setCell ⟨R, 4, none⟩ y4).setCell ⟨R, 5, none⟩ y5) :=
  ⟨((((((h.put hlo).put hlo).put hlo).put hlo).put hlo).put hlo).mono (by omega), below_put (below_put (below_put (below_put (below_put (below_put b hR) hR) hR) hR) hR) hR⟩
theorem below6 {w w2 : World} {n R : Nat} {y0 y1 y2 y3 y4 y5 : Value} (b : Below n w w2) (hR : n ≤ R) :
    Below n w ((((((w2.setCell ⟨R, 0, none⟩ y0).setCell ⟨R, 1, none⟩ y1).setCell ⟨R, 2, none⟩ y2).setCell ⟨R, 3, none⟩ y3).setCell ⟨R, 4, none⟩ y4).setCell ⟨R, 5, none⟩ y5) :=
  below_put (below_put (below_put (below_put (below_put (below_put b hR) hR) hR) hR) hR) hR
theorem frn {w : World} {lo : Nat} : FourF w lo (.slice none 0 0) (.slice none 0 0) (.slice none 0 0) (.slice none 0 0) [] [] [] [] := ⟨⟨frI_nil _ _, frI_nil _ _⟩, ⟨frI_nil _ _, frI_nil _ _⟩⟩

theorem specRatOf12 (T : RA) (hT : ratOfP 1 2 = T) (w : World) : Calls Tryz.prog 77 #[.int .i64 1, .int .i64 2] w (RatRetS w T) := by
  subst hT
  exact specRatOf_own 1 2 w (by unfold In64; omega) (by unfold In64; omega)

section
variable (r s : RA) (a : Option Addr) (ca : Nat) (b : Option Addr) (cb : Nat) (a2 : Option Addr) (ca2 : Nat) (b2 : Option Addr) (cb2 : Nat) (w : World)
set_option maxHeartbeats 2000000 in
theorem specValid_R (lo : Nat) (h : FourF w lo (.slice a r.num.length ca) (.slice b r.den.length cb) (.slice a2 s.num.length ca2) (.slice b2 s.den.length cb2) r.num r.den s.num s.den) (hr : LenRA r) (hs : LenRA s) : Calls Tryz.prog 28 #[.agg #[.bool r.neg, .slice a r.num.length ca, .slice b r.den.length cb, .bool s.neg, .slice a2 s.num.length ca2, .slice b2 s.den.length cb2]] w fun e w' => e = .returned (.bool (okRA r && okRA s)) ∧ Below w.heap.size w w' := by
  have F := Lib.hid h
  clear h
  by_cases h1 : ratOkB r.neg r.num r.den = true
  · have e : (okRA r && okRA s) = ratOkB s.neg s.num s.den := by unfold okRA; rw [h1, Bool.true_and]
    rw [e]
    clear e
    go_enter Tryz.func28, Tryz.ntmps28
    go_wp2_with fail
    refine (specRatOk_any r.neg a ca r.num b cb r.den _ (F.out.i1.below (ba1 _ _)) hr.1 (F.out.i2.below (ba1 _ _)) hr.2).mono ?_
    rintro e W12 ⟨rfl, b12⟩
    have Rx := bx1_0 b12
    have B := Lib.hid (bstep (ba1 _ _) b12)
    have sb12 := b12.size
    try simp at sb12
    have Yx0 := Rx.cell 0 rfl
    have Yx1 := Rx.cell 1 rfl
    have Yx2 := Rx.cell 2 rfl
    have Yx3 := Rx.cell 3 rfl
    have Yx4 := Rx.cell 4 rfl
    have Yx5 := Rx.cell 5 rfl
    have Lx := Rx.lt
    clear b12
    go_wp2_with fail
    refine (specRatOk_any s.neg a2 ca2 s.num b2 cb2 s.den _ (F.out.i3.below B.out) hs.1 (F.out.i4.below B.out) hs.2).mono ?_
    rintro e W13 ⟨rfl, b13⟩
    clear Yx0 Yx1 Yx2 Yx3 Yx4 Yx5 Lx
    have Rx := box_step Rx b13
    have B := Lib.hid (bstep B.out b13)
    have sb13 := b13.size
    have Yx0 := Rx.cell 0 rfl
    have Yx1 := Rx.cell 1 rfl
    have Yx2 := Rx.cell 2 rfl
    have Yx3 := Rx.cell 3 rfl
    have Yx4 := Rx.cell 4 rfl
    have Yx5 := Rx.cell 5 rfl
    have Lx := Rx.lt
    clear b13
    go_wp2
    go_ret
    exact ⟨rfl, B.out⟩
  · have h1' := Bool.eq_false_iff.2 h1
    have e : (okRA r && okRA s) = false := by unfold okRA; rw [h1', Bool.false_and]
    rw [e]
    clear e h1
    go_enter Tryz.func28, Tryz.ntmps28
    go_wp2_with fail
    refine (specRatOk_any r.neg a ca r.num b cb r.den _ (F.out.i1.below (ba1 _ _)) hr.1 (F.out.i2.below (ba1 _ _)) hr.2).mono ?_
    rintro e W14 ⟨rfl, b14⟩
    have Rx := bx1_0 b14
    have B := Lib.hid (bstep (ba1 _ _) b14)
    have sb14 := b14.size
    try simp at sb14
    have Yx0 := Rx.cell 0 rfl
    have Yx1 := Rx.cell 1 rfl
    have Yx2 := Rx.cell 2 rfl
    have Yx3 := Rx.cell 3 rfl
    have Yx4 := Rx.cell 4 rfl
    have Yx5 := Rx.cell 5 rfl
    have Lx := Rx.lt
    clear b14
    go_wp2
    go_ret
    exact ⟨rfl, B.out⟩
end

set_option maxHeartbeats 2000000 in
theorem specIsValidPoint_any (n : Bool) (a : Option Addr) (ca : Nat) (xs : List Int) (b : Option Addr) (cb : Nat) (ds : List Int) (m : Bool) (a2 : Option Addr) (ca2 : Nat) (ys : List Int) (b2 : Option Addr) (cb2 : Nat) (es : List Int) (w : World) (ha : IntsAt w a ca xs) (hn : xs.length ≤ 1048576) (hb : IntsAt w b cb ds) (hm : ds.length ≤ 1048576) (ha2 : IntsAt w a2 ca2 ys) (hn2 : ys.length ≤ 1048576) (hb2 : IntsAt w b2 cb2 es) (hm2 : es.length ≤ 1048576) : Calls Tryz.prog 28 #[.agg #[.bool n, .slice a xs.length ca, .slice b ds.length cb, .bool m, .slice a2 ys.length ca2, .slice b2 es.length cb2]] w fun e w' => e = .returned (.bool (ratOkB n xs ds && ratOkB m ys es)) ∧ Below w.heap.size w w' := by
  have f : FourF w 0 (.slice a xs.length ca) (.slice b ds.length cb) (.slice a2 ys.length ca2) (.slice b2 es.length cb2) xs ds ys es := ⟨⟨⟨_, _, rfl, ha, fun _ _ => Nat.zero_le _⟩, ⟨_, _, rfl, hb, fun _ _ => Nat.zero_le _⟩⟩, ⟨⟨_, _, rfl, ha2, fun _ _ => Nat.zero_le _⟩, ⟨_, _, rfl, hb2, fun _ _ => Nat.zero_le _⟩⟩⟩
  exact specValid_R ⟨n, xs, ds⟩ ⟨m, ys, es⟩ a ca b cb a2 ca2 b2 cb2 w 0 f ⟨hn, hm⟩ ⟨hn2, hm2⟩

end Go.Proofs.YtjklefkkdaelnaaGreatDoor
