/- Points: reading, copying, marking; the reference. -/
import Derived.Test.YtlpnhcoaidmiiaaTyR
import Derived.Deep.RegionHeld3
import Derived.Test.YtlpnhcoaidmiiaaRatA
namespace Go.Proofs.Ytlpnhcoaidmiiaa
set_option linter.unusedVariables false
set_option linter.unusedSimpArgs false
open Go.RowKit

set_option maxHeartbeats 2000000 in
theorem szPoint_any (pn0 : Bool) (pa0 : Option Addr) (pc0 : Nat) (px0 : List Int) (pa1 : Option Addr) (pc1 : Nat) (px1 : List Int) (pn1 : Bool) (pa2 : Option Addr) (pc2 : Nat) (px2 : List Int) (pa3 : Option Addr) (pc3 : Nat) (px3 : List Int) (k : Int) (w : World) (hk0 : 0 ≤ k) (hk1 : k ≤ 1048576) (h0 : px0.length ≤ 9223372036854775807) (h1 : px1.length ≤ 9223372036854775807) (h2 : px2.length ≤ 9223372036854775807) (h3 : px3.length ≤ 9223372036854775807) :
    Calls Try.prog 42 #[.agg #[.bool pn0, .slice pa0 px0.length pc0, .slice pa1 px1.length pc1, .bool pn1, .slice pa2 px2.length pc2, .slice pa3 px3.length pc3], .int .i64 k] w fun e w' => e = .returned (.int .i64 (if k - (px0.length + px1.length + px2.length + px3.length : Nat) < 0 then -1 else k - (px0.length + px1.length + px2.length + px3.length : Nat))) ∧ Below w.heap.size w w' := by
  by_cases h5 : k - (px0.length + px1.length : Nat) < 0
  · rw [if_pos (by omega)]
    go_enter Try.func42, Try.ntmps42
    go_wp2_with fail
    refine (szRat_any pn0 pa0 pc0 px0 pa1 pc1 px1 k _ hk0 hk1 h0 h1).mono ?_
    rintro e W1 ⟨rfl, b1⟩
    have Rx := bx1_0 b1
    have B := Lib.hid (bstep (ba1 _ _) b1)
    have sb1 := b1.size
    try simp at sb1
    have Yx0 := Rx.cell 0 rfl
    have Yx1 := Rx.cell 1 rfl
    have Yx2 := Rx.cell 2 rfl
    have Yx3 := Rx.cell 3 rfl
    have Yx4 := Rx.cell 4 rfl
    have Yx5 := Rx.cell 5 rfl
    have Lx := Rx.lt
    clear b1
    rw [if_pos (by omega)]
    go_wp2
    go_ret
    exact ⟨rfl, B.out⟩
  · by_cases h6 : k - (px0.length + px1.length + px2.length + px3.length : Nat) < 0
    · rw [if_pos h6]
      go_enter Try.func42, Try.ntmps42
      go_wp2_with fail
      refine (szRat_any pn0 pa0 pc0 px0 pa1 pc1 px1 k _ hk0 hk1 h0 h1).mono ?_
      rintro e W2 ⟨rfl, b2⟩
      have Rx := bx1_0 b2
      have B := Lib.hid (bstep (ba1 _ _) b2)
      have sb2 := b2.size
      try simp at sb2
      have Yx0 := Rx.cell 0 rfl
      have Yx1 := Rx.cell 1 rfl
      have Yx2 := Rx.cell 2 rfl
      have Yx3 := Rx.cell 3 rfl
      have Yx4 := Rx.cell 4 rfl
      have Yx5 := Rx.cell 5 rfl
      have Lx := Rx.lt
      clear b2
      rw [if_neg (by omega)]
      go_wp2_with fail
      refine (szRat_any pn1 pa2 pc2 px2 pa3 pc3 px3 (k - (px0.length + px1.length : Nat)) _ (by omega) (by omega) h2 h3).mono ?_
      rintro e W3 ⟨rfl, b3⟩
      clear Yx0 Yx1 Yx2 Yx3 Yx4 Yx5 Lx
      have Rx := box_step Rx b3
      have B := Lib.hid (bstep B.out b3)
      have sb3 := b3.size
      have Yx0 := Rx.cell 0 rfl
      have Yx1 := Rx.cell 1 rfl
      have Yx2 := Rx.cell 2 rfl
      have Yx3 := Rx.cell 3 rfl
      have Yx4 := Rx.cell 4 rfl
      have Yx5 := Rx.cell 5 rfl
      have Lx := Rx.lt
      clear b3
      rw [if_pos (by omega)]
      go_wp2
      go_ret
      exact ⟨rfl, B.out⟩
    · rw [if_neg h6]
      have e : k - (px0.length + px1.length : Nat) - (px2.length + px3.length : Nat) = k - (px0.length + px1.length + px2.length + px3.length : Nat) := by omega
      have HE := Lib.hid e
      clear e
      go_enter Try.func42, Try.ntmps42
      go_wp2_with fail
      refine (szRat_any pn0 pa0 pc0 px0 pa1 pc1 px1 k _ hk0 hk1 h0 h1).mono ?_
      rintro e W4 ⟨rfl, b4⟩
      have Rx := bx1_0 b4
      have B := Lib.hid (bstep (ba1 _ _) b4)
      have sb4 := b4.size
      try simp at sb4
      have Yx0 := Rx.cell 0 rfl
      have Yx1 := Rx.cell 1 rfl
      have Yx2 := Rx.cell 2 rfl
      have Yx3 := Rx.cell 3 rfl
      have Yx4 := Rx.cell 4 rfl
      have Yx5 := Rx.cell 5 rfl
      have Lx := Rx.lt
      clear b4
      rw [if_neg (by omega)]
      go_wp2_with fail
      refine (szRat_any pn1 pa2 pc2 px2 pa3 pc3 px3 (k - (px0.length + px1.length : Nat)) _ (by omega) (by omega) h2 h3).mono ?_
      rintro e W5 ⟨rfl, b5⟩
      clear Yx0 Yx1 Yx2 Yx3 Yx4 Yx5 Lx
      have Rx := box_step Rx b5
      have B := Lib.hid (bstep B.out b5)
      have sb5 := b5.size
      have Yx0 := Rx.cell 0 rfl
      have Yx1 := Rx.cell 1 rfl
      have Yx2 := Rx.cell 2 rfl
      have Yx3 := Rx.cell 3 rfl
      have Yx4 := Rx.cell 4 rfl
      have Yx5 := Rx.cell 5 rfl
      have Lx := Rx.lt
      clear b5
      rw [if_neg (by omega)]
      go_wp2
      go_ret
      exact ⟨ret_int HE.out, B.out⟩

set_option maxHeartbeats 4000000 in
theorem toPoint_own (pn0 : Bool) (pa0 : Option Addr) (pc0 : Nat) (px0 : List Int) (pa1 : Option Addr) (pc1 : Nat) (px1 : List Int) (pn1 : Bool) (pa2 : Option Addr) (pc2 : Nat) (px2 : List Int) (pa3 : Option Addr) (pc3 : Nat) (px3 : List Int) (w : World) (i0 : IntsAt w pa0 pc0 px0) (h0 : px0.length ≤ 1048576) (i1 : IntsAt w pa1 pc1 px1) (h1 : px1.length ≤ 1048576) (i2 : IntsAt w pa2 pc2 px2) (h2 : px2.length ≤ 1048576) (i3 : IntsAt w pa3 pc3 px3) (h3 : px3.length ≤ 1048576) :
    Calls Try.prog 44 #[.agg #[.bool pn0, .slice pa0 px0.length pc0, .slice pa1 px1.length pc1, .bool pn1, .slice pa2 px2.length pc2, .slice pa3 px3.length pc3]] w fun e w' => ∃ a0 c0 a1 c1 a2 c2 a3 c3, e = .returned (.agg #[.bool pn0, .slice a0 px0.length c0, .slice a1 px1.length c1, .bool pn1, .slice a2 px2.length c2, .slice a3 px3.length c3]) ∧
      Four w' w.heap.size w'.heap.size (.slice a0 px0.length c0) (.slice a1 px1.length c1) (.slice a2 px2.length c2) (.slice a3 px3.length c3) px0 px1 px2 px3 ∧ Below w.heap.size w w' := by
  have I0 := Lib.hid i0
  have I1 := Lib.hid i1
  have I2 := Lib.hid i2
  have I3 := Lib.hid i3
  clear i0 i1 i2 i3
  go_enter Try.func44, Try.ntmps44
  go_wp2_with fail
  refine (toRat_own pn0 pa0 pc0 px0 pa1 pc1 px1 _ (I0.out.below (ba3 _ _ _ _)) h0 (I1.out.below (ba3 _ _ _ _)) h1).mono ?_
  rintro e W6 ⟨a0, c0, a1, c1, rfl, hO, b6⟩
  have Rx := bx3_0 b6
  have Rr := bx3_1 b6
  have Ro := bx3_2 b6
  have B := Lib.hid (bstep (ba3 _ _ _ _) b6)
  have sb6 := b6.size
  try simp at sb6
  have O := Lib.hid hO
  clear hO
  have Yx0 := Rx.cell 0 rfl
  have Yx1 := Rx.cell 1 rfl
  have Yx2 := Rx.cell 2 rfl
  have Yx3 := Rx.cell 3 rfl
  have Yx4 := Rx.cell 4 rfl
  have Yx5 := Rx.cell 5 rfl
  have Lx := Rx.lt
  have Yr0 := Rr.cell 0 rfl
  have Yr1 := Rr.cell 1 rfl
  have Yr2 := Rr.cell 2 rfl
  have Yr3 := Rr.cell 3 rfl
  have Yr4 := Rr.cell 4 rfl
  have Yr5 := Rr.cell 5 rfl
  have Lr := Rr.lt
  have Fr0 := Rr.frozen 0
  have Fr1 := Rr.frozen 1
  have Fr2 := Rr.frozen 2
  have Fr3 := Rr.frozen 3
  have Fr4 := Rr.frozen 4
  have Fr5 := Rr.frozen 5
  have Yo0 := Ro.cell 0 rfl
  have Yo1 := Ro.cell 1 rfl
  have Yo2 := Ro.cell 2 rfl
  have Yo3 := Ro.cell 3 rfl
  have Yo4 := Ro.cell 4 rfl
  have Yo5 := Ro.cell 5 rfl
  have Lo := Ro.lt
  have Fo0 := Ro.frozen 0
  have Fo1 := Ro.frozen 1
  have Fo2 := Ro.frozen 2
  have Fo3 := Ro.frozen 3
  have Fo4 := Ro.frozen 4
  have Fo5 := Ro.frozen 5
  clear b6
  go_wp2_with fail
  refine (toRat_own pn1 pa2 pc2 px2 pa3 pc3 px3 _ (I2.out.below (below_put (R := w.heap.size + 2) (k := 2) (below_put (R := w.heap.size + 2) (k := 1) (below_put (R := w.heap.size + 2) (k := 0) B.out (by first | omega | (simp; done) | (simp; omega))) (by first | omega | (simp; done) | (simp; omega))) (by first | omega | (simp; done) | (simp; omega)))) h2 (I3.out.below (below_put (R := w.heap.size + 2) (k := 2) (below_put (R := w.heap.size + 2) (k := 1) (below_put (R := w.heap.size + 2) (k := 0) B.out (by first | omega | (simp; done) | (simp; omega))) (by first | omega | (simp; done) | (simp; omega))) (by first | omega | (simp; done) | (simp; omega)))) h3).mono ?_
  rintro e W7 ⟨a2, c2, a3, c3, rfl, hQ, b7⟩
  clear Yx0 Yx1 Yx2 Yx3 Yx4 Yx5 Lx Yr0 Yr1 Yr2 Yr3 Yr4 Yr5 Lr Fr0 Fr1 Fr2 Fr3 Fr4 Fr5 Yo0 Yo1 Yo2 Yo3 Yo4 Yo5 Lo Fo0 Fo1 Fo2 Fo3 Fo4 Fo5
  have Rx := box_step (box_other (R := w.heap.size + 2) (k := 2) (box_other (R := w.heap.size + 2) (k := 1) (box_other (R := w.heap.size + 2) (k := 0) Rx (by first | omega | (simp; done) | (simp; omega))) (by first | omega | (simp; done) | (simp; omega))) (by first | omega | (simp; done) | (simp; omega))) b7
  have Rr := box_step (box_other (R := w.heap.size + 2) (k := 2) (box_other (R := w.heap.size + 2) (k := 1) (box_other (R := w.heap.size + 2) (k := 0) Rr (by first | omega | (simp; done) | (simp; omega))) (by first | omega | (simp; done) | (simp; omega))) (by first | omega | (simp; done) | (simp; omega))) b7
  have Ro : Box W7 (w.heap.size + 2) #[.bool pn0, .slice a0 px0.length c0, .slice a1 px1.length c1, .bool false, .slice none 0 0, .slice none 0 0] := box_as (box_step (box_put (k := 2) (box_put (k := 1) (box_put (k := 0) Ro))) b7) rfl
  have B := Lib.hid (bstep (below_put (R := w.heap.size + 2) (k := 2) (below_put (R := w.heap.size + 2) (k := 1) (below_put (R := w.heap.size + 2) (k := 0) B.out (by first | omega | (simp; done) | (simp; omega))) (by first | omega | (simp; done) | (simp; omega))) (by first | omega | (simp; done) | (simp; omega))) b7)
  have O := Lib.hid ((((O.out.put (R := w.heap.size + 2) (k := 0) (by first | omega | (simp; done) | (simp; omega))).put (R := w.heap.size + 2) (k := 1) (by first | omega | (simp; done) | (simp; omega))).put (R := w.heap.size + 2) (k := 2) (by first | omega | (simp; done) | (simp; omega))).below b7)
  have sb7 := b7.size
  try simp at sb7
  have Q := Lib.hid hQ
  clear hQ
  have Yx0 := Rx.cell 0 rfl
  have Yx1 := Rx.cell 1 rfl
  have Yx2 := Rx.cell 2 rfl
  have Yx3 := Rx.cell 3 rfl
  have Yx4 := Rx.cell 4 rfl
  have Yx5 := Rx.cell 5 rfl
  have Lx := Rx.lt
  have Yr0 := Rr.cell 0 rfl
  have Yr1 := Rr.cell 1 rfl
  have Yr2 := Rr.cell 2 rfl
  have Yr3 := Rr.cell 3 rfl
  have Yr4 := Rr.cell 4 rfl
  have Yr5 := Rr.cell 5 rfl
  have Lr := Rr.lt
  have Fr0 := Rr.frozen 0
  have Fr1 := Rr.frozen 1
  have Fr2 := Rr.frozen 2
  have Fr3 := Rr.frozen 3
  have Fr4 := Rr.frozen 4
  have Fr5 := Rr.frozen 5
  have Yo0 := Ro.cell 0 rfl
  have Yo1 := Ro.cell 1 rfl
  have Yo2 := Ro.cell 2 rfl
  have Yo3 := Ro.cell 3 rfl
  have Yo4 := Ro.cell 4 rfl
  have Yo5 := Ro.cell 5 rfl
  have Lo := Ro.lt
  have Fo0 := Ro.frozen 0
  have Fo1 := Ro.frozen 1
  have Fo2 := Ro.frozen 2
  have Fo3 := Ro.frozen 3
  have Fo4 := Ro.frozen 4
  have Fo5 := Ro.frozen 5
  clear b7
  go_wp2
  refine bodyPost_ret (v := .agg #[.bool pn0, .slice a0 px0.length c0, .slice a1 px1.length c1, .bool pn1, .slice a2 px2.length c2, .slice a3 px3.length c3]) (by simp [results, Try.results44, go_sem, Yr0, Yr1, Yr2, Yr3, Yr4, Yr5, Yo0, Yo1, Yo2, Yo3, Yo4, Yo5, Lr, Lo]) rfl ⟨a0, c0, a1, c1, a2, c2, a3, c3, rfl, ?_⟩
  exact point_endR (R := w.heap.size + 1) (lo := w.heap.size + 3) (hi := W7.heap.size) (by omega) (by omega) ((((Four.of O.out Q.out (by first | omega | (simp; done) | (simp; omega)) (by first | omega | (simp; done) | (simp; omega)) (by first | omega | (simp; done) | (simp; omega)) (by first | omega | (simp; done) | (simp; omega)) (by first | omega | (simp; done) | (simp; omega))).put (R := w.heap.size + 2) (by omega)).put (R := w.heap.size + 2) (by omega)).put (R := w.heap.size + 2) (by omega)) (by simp) (below_put (below_put (below_put B.out (by omega)) (by omega)) (by omega))

set_option maxHeartbeats 4000000 in
theorem eqPoint_same (pn0 pn1 : Bool) (a0 : Option Addr) (c0 : Nat) (b0 : Option Addr) (d0 : Nat) (px0 : List Int) (a1 : Option Addr) (c1 : Nat) (b1 : Option Addr) (d1 : Nat) (px1 : List Int) (a2 : Option Addr) (c2 : Nat) (b2 : Option Addr) (d2 : Nat) (px2 : List Int) (a3 : Option Addr) (c3 : Nat) (b3 : Option Addr) (d3 : Nat) (px3 : List Int) (w : World) (i0 : IntsAt w a0 c0 px0) (j0 : IntsAt w b0 d0 px0) (h0 : px0.length ≤ 1048576) (i1 : IntsAt w a1 c1 px1) (j1 : IntsAt w b1 d1 px1) (h1 : px1.length ≤ 1048576) (i2 : IntsAt w a2 c2 px2) (j2 : IntsAt w b2 d2 px2) (h2 : px2.length ≤ 1048576) (i3 : IntsAt w a3 c3 px3) (j3 : IntsAt w b3 d3 px3) (h3 : px3.length ≤ 1048576) :
    Calls Try.prog 33 #[.agg #[.bool pn0, .slice a0 px0.length c0, .slice a1 px1.length c1, .bool pn1, .slice a2 px2.length c2, .slice a3 px3.length c3], .agg #[.bool pn0, .slice b0 px0.length d0, .slice b1 px1.length d1, .bool pn1, .slice b2 px2.length d2, .slice b3 px3.length d3]] w fun e w' => e = .returned (.bool true) ∧ Below w.heap.size w w' := by
  have I0 := Lib.hid i0
  have J0 := Lib.hid j0
  have I1 := Lib.hid i1
  have J1 := Lib.hid j1
  have I2 := Lib.hid i2
  have J2 := Lib.hid j2
  have I3 := Lib.hid i3
  have J3 := Lib.hid j3
  clear i0 j0 i1 j1 i2 j2 i3 j3
  go_enter Try.func33, Try.ntmps33
  go_wp2_with fail
  refine (eqRat_same pn0 a0 c0 b0 d0 px0 a1 c1 b1 d1 px1 _ (I0.out.below (ba2 _ _ _)) (J0.out.below (ba2 _ _ _)) h0 (I1.out.below (ba2 _ _ _)) (J1.out.below (ba2 _ _ _)) h1).mono ?_
  rintro e W8 ⟨rfl, b8⟩
  have Rx := bx2_0 b8
  have Ry := bx2_1 b8
  have B := Lib.hid (bstep (ba2 _ _ _) b8)
  have sb8 := b8.size
  try simp at sb8
  have Yx0 := Rx.cell 0 rfl
  have Yx1 := Rx.cell 1 rfl
  have Yx2 := Rx.cell 2 rfl
  have Yx3 := Rx.cell 3 rfl
  have Yx4 := Rx.cell 4 rfl
  have Yx5 := Rx.cell 5 rfl
  have Lx := Rx.lt
  have Yy0 := Ry.cell 0 rfl
  have Yy1 := Ry.cell 1 rfl
  have Yy2 := Ry.cell 2 rfl
  have Yy3 := Ry.cell 3 rfl
  have Yy4 := Ry.cell 4 rfl
  have Yy5 := Ry.cell 5 rfl
  have Ly := Ry.lt
  clear b8
  go_wp2_with fail
  refine (eqRat_same pn1 a2 c2 b2 d2 px2 a3 c3 b3 d3 px3 _ (I2.out.below B.out) (J2.out.below B.out) h2 (I3.out.below B.out) (J3.out.below B.out) h3).mono ?_
  rintro e W9 ⟨rfl, b9⟩
  clear Yx0 Yx1 Yx2 Yx3 Yx4 Yx5 Lx Yy0 Yy1 Yy2 Yy3 Yy4 Yy5 Ly
  have Rx := box_step Rx b9
  have Ry := box_step Ry b9
  have B := Lib.hid (bstep B.out b9)
  have sb9 := b9.size
  have Yx0 := Rx.cell 0 rfl
  have Yx1 := Rx.cell 1 rfl
  have Yx2 := Rx.cell 2 rfl
  have Yx3 := Rx.cell 3 rfl
  have Yx4 := Rx.cell 4 rfl
  have Yx5 := Rx.cell 5 rfl
  have Lx := Rx.lt
  have Yy0 := Ry.cell 0 rfl
  have Yy1 := Ry.cell 1 rfl
  have Yy2 := Ry.cell 2 rfl
  have Yy3 := Ry.cell 3 rfl
  have Yy4 := Ry.cell 4 rfl
  have Yy5 := Ry.cell 5 rfl
  have Ly := Ry.lt
  clear b9
  go_wp2
  go_ret
  exact ⟨rfl, B.out⟩

/-- marks of four rows -/
def MFour (w : World) (lo hi : Nat) (u v u2 v2 : Value) (n m n2 m2 : Nat) (k : Int) : Prop := ∃ q, lo ≤ q ∧ q ≤ hi ∧ MTwo w lo q u v n m k ∧ MTwo w q hi u2 v2 n2 m2 (k + (n + m : Nat))
theorem MFour.below {w w' : World} {lo hi n m n2 m2 : Nat} {u v u2 v2 : Value} {k : Int} (h : MFour w lo hi u v u2 v2 n m n2 m2 k) (b : Below w.heap.size w w') : MFour w' lo hi u v u2 v2 n m n2 m2 k := let ⟨q, h1, h2, h3, h4⟩ := h; ⟨q, h1, h2, h3.below b, h4.below b⟩
theorem MFour.span {w w' : World} {lo hi lo2 hi2 n m n2 m2 : Nat} {u v u2 v2 : Value} {k : Int} (h : MFour w lo hi u v u2 v2 n m n2 m2 k) (s : Span lo2 hi2 w w') (ho : hi ≤ lo2 ∨ hi2 ≤ lo) : MFour w' lo hi u v u2 v2 n m n2 m2 k :=
  let ⟨q, h1, h2, h3, h4⟩ := h; ⟨q, h1, h2, h3.span s (by omega), h4.span s (by omega)⟩

set_option maxHeartbeats 4000000 in
theorem markPoint_own {lo hi : Nat} (pn0 : Bool) (pa0 : Option Addr) (pc0 : Nat) (px0 : List Int) (pa1 : Option Addr) (pc1 : Nat) (px1 : List Int) (pn1 : Bool) (pa2 : Option Addr) (pc2 : Nat) (px2 : List Int) (pa3 : Option Addr) (pc3 : Nat) (px3 : List Int) (k : Int) (w : World) (ha : Four w lo hi (.slice pa0 px0.length pc0) (.slice pa1 px1.length pc1) (.slice pa2 px2.length pc2) (.slice pa3 px3.length pc3) px0 px1 px2 px3) (hh : hi ≤ w.heap.size) (h0 : px0.length ≤ 1048576) (h1 : px1.length ≤ 1048576) (h2 : px2.length ≤ 1048576) (h3 : px3.length ≤ 1048576) (hk0 : 0 ≤ k) (hk1 : k ≤ 800000000) :
    Calls Try.prog 34 #[.agg #[.bool pn0, .slice pa0 px0.length pc0, .slice pa1 px1.length pc1, .bool pn1, .slice pa2 px2.length pc2, .slice pa3 px3.length pc3], .int .i64 k] w fun e w' => e = .returned (.int .i64 (k + (px0.length + px1.length + px2.length + px3.length : Nat))) ∧ MFour w' lo hi (.slice pa0 px0.length pc0) (.slice pa1 px1.length pc1) (.slice pa2 px2.length pc2) (.slice pa3 px3.length pc3) px0.length px1.length px2.length px3.length k ∧ Span lo hi w w' := by
  obtain ⟨m, e1, e2, g1, g2⟩ := ha
  have H1 := Lib.hid g1
  have H2 := Lib.hid g2
  have HE : Hid (k + (px0.length + px1.length : Nat) + (px2.length + px3.length : Nat) = k + (px0.length + px1.length + px2.length + px3.length : Nat)) := by unfold Hid; omega
  clear g1 g2
  have B1 := box_new0 (w := w) (cs := #[.bool pn0, .slice pa0 px0.length pc0, .slice pa1 px1.length pc1, .bool pn1, .slice pa2 px2.length pc2, .slice pa3 px3.length pc3]) (t := 32) (Below.refl _ _)
  go_enter Try.func34, Try.ntmps34
  go_wp2_with fail
  refine (markRat_own pn0 pa0 pc0 px0 pa1 pc1 px1 k _ (H1.out.below (ba1 _ _)) (by simp; omega) h0 h1 hk0 (by omega)).mono ?_
  rintro e w1 ⟨rfl, hm1, hs1⟩
  have M1 := Lib.hid hm1
  have S1 := Lib.hid hs1
  have R1 := box_span B1 hs1 (.inr (by omega))
  have Y0 := R1.cell 0 rfl
  have Y1 := R1.cell 1 rfl
  have Y2 := R1.cell 2 rfl
  have Y3 := R1.cell 3 rfl
  have Y4 := R1.cell 4 rfl
  have Y5 := R1.cell 5 rfl
  have Y6 := R1.lt
  have hs := hs1.size
  simp at hs
  clear hm1 hs1 B1 R1
  go_wp2_with fail
  refine (markRat_own pn1 pa2 pc2 px2 pa3 pc3 px3 (k + (px0.length + px1.length : Nat)) _ ((H2.out.below (ba1 _ _)).span S1.out (.inr (Nat.le_refl _))) (by omega) h2 h3 (by omega) (by omega)).mono ?_
  rintro e w2 ⟨rfl, hm2, hs2⟩
  have M2 := Lib.hid hm2
  have S2 := Lib.hid hs2
  clear hm2 hs2
  go_wp2
  go_ret
  exact ⟨ret_int HE.out, ⟨m, e1, e2, M1.out.span S2.out (.inl (Nat.le_refl _)), M2.out⟩, (Span.of_below (ba1 _ _)).trans ((bspan_mono S1.out (Nat.le_refl _) e2).trans (bspan_mono S2.out e1 (Nat.le_refl _)))⟩

set_option maxHeartbeats 4000000 in
theorem heldPoint_own {lo hi : Nat} (pn0 pn1 : Bool) (a0 : Option Addr) (c0 m0 : Nat) (a1 : Option Addr) (c1 m1 : Nat) (a2 : Option Addr) (c2 m2 : Nat) (a3 : Option Addr) (c3 m3 : Nat) (k : Int) (w : World) (ha : MFour w lo hi (.slice a0 m0 c0) (.slice a1 m1 c1) (.slice a2 m2 c2) (.slice a3 m3 c3) m0 m1 m2 m3 k) (h0 : m0 ≤ 1048576) (h1 : m1 ≤ 1048576) (h2 : m2 ≤ 1048576) (h3 : m3 ≤ 1048576) (hk0 : 0 ≤ k) (hk1 : k ≤ 800000000) :
    Calls Try.prog 35 #[.agg #[.bool pn0, .slice a0 m0 c0, .slice a1 m1 c1, .bool pn1, .slice a2 m2 c2, .slice a3 m3 c3], .int .i64 k] w fun e w' => e = .returned (.int .i64 (k + (m0 + m1 + m2 + m3 : Nat))) ∧ Below w.heap.size w w' := by
  obtain ⟨q, e1, e2, g1, g2⟩ := ha
  have H1 := Lib.hid g1
  have H2 := Lib.hid g2
  have HE : Hid (k + (m0 + m1 : Nat) + (m2 + m3 : Nat) = k + (m0 + m1 + m2 + m3 : Nat)) := by unfold Hid; omega
  clear g1 g2
  go_enter Try.func35, Try.ntmps35
  go_wp2_with fail
  refine (heldRat_own pn0 a0 c0 m0 a1 c1 m1 k _ (H1.out.below (ba1 _ _)) h0 h1 hk0 (by omega)).mono ?_
  rintro e W10 ⟨rfl, b10⟩
  have Rx := bx1_0 b10
  have B := Lib.hid (bstep (ba1 _ _) b10)
  have sb10 := b10.size
  try simp at sb10
  have Yx0 := Rx.cell 0 rfl
  have Yx1 := Rx.cell 1 rfl
  have Yx2 := Rx.cell 2 rfl
  have Yx3 := Rx.cell 3 rfl
  have Yx4 := Rx.cell 4 rfl
  have Yx5 := Rx.cell 5 rfl
  have Lx := Rx.lt
  clear b10
  go_wp2_with fail
  refine (heldRat_own pn1 a2 c2 m2 a3 c3 m3 (k + (m0 + m1 : Nat)) _ (H2.out.below B.out) h2 h3 (by omega) (by omega)).mono ?_
  rintro e W11 ⟨rfl, b11⟩
  clear Yx0 Yx1 Yx2 Yx3 Yx4 Yx5 Lx
  have Rx := box_step Rx b11
  have B := Lib.hid (bstep B.out b11)
  have sb11 := b11.size
  have Yx0 := Rx.cell 0 rfl
  have Yx1 := Rx.cell 1 rfl
  have Yx2 := Rx.cell 2 rfl
  have Yx3 := Rx.cell 3 rfl
  have Yx4 := Rx.cell 4 rfl
  have Yx5 := Rx.cell 5 rfl
  have Lx := Rx.lt
  clear b11
  go_wp2
  go_ret
  exact ⟨ret_int HE.out, B.out⟩
open Go.RowKit

section
variable {w : World} {B : Nat} {v0 v1 v2 v3 v4 v5 : Value} {l : List Value}
theorem Box.c0 (h : Box w B (v0 :: l).toArray) : w.cell? ⟨B, 0, none⟩ = some v0 := h.cell 0 (by simp)
theorem Box.c1 (h : Box w B (v0 :: v1 :: l).toArray) : w.cell? ⟨B, 1, none⟩ = some v1 := h.cell 1 (by simp)
theorem Box.c2 (h : Box w B (v0 :: v1 :: v2 :: l).toArray) : w.cell? ⟨B, 2, none⟩ = some v2 := h.cell 2 (by simp)
theorem Box.c3 (h : Box w B (v0 :: v1 :: v2 :: v3 :: l).toArray) : w.cell? ⟨B, 3, none⟩ = some v3 := h.cell 3 (by simp)
theorem Box.c4 (h : Box w B (v0 :: v1 :: v2 :: v3 :: v4 :: l).toArray) : w.cell? ⟨B, 4, none⟩ = some v4 := h.cell 4 (by simp)
theorem Box.c5 (h : Box w B (v0 :: v1 :: v2 :: v3 :: v4 :: v5 :: l).toArray) : w.cell? ⟨B, 5, none⟩ = some v5 := h.cell 5 (by simp)
end
def LenRA (r : RA) : Prop := r.num.length ≤ 1048576 ∧ r.den.length ≤ 1048576
structure LenPT (p : PT) : Prop where
  x : LenRA p.x
  y : LenRA p.y
theorem RaOr.len' {r : RA} (h : RaOr r) : LenRA r := h.len
theorem PtOr.len' {p : PT} (h : PtOr p) : LenPT p := ⟨h.1.len, h.2.len⟩
def pt (n : Bool) (xs ds : List Int) (m : Bool) (ys es : List Int) : PT := ⟨⟨n, xs, ds⟩, ⟨m, ys, es⟩⟩
theorem ptF_end {w w2 : World} {lo R : Nat} {u v u2 v2 : Value} {xs ys xs2 ys2 : List Int} {y0 y1 y2 y3 y4 y5 : Value} (hR : w.heap.size ≤ R) (hlo : R < lo) (h : FourF w2 lo u v u2 v2 xs ys xs2 ys2) (b : Below w.heap.size w w2) :
    FourF ((((((w2.setCell ⟨R, 0, none⟩ y0).setCell ⟨R, 1, none⟩ y1).setCell ⟨R, 2, none⟩ y2).setCell ⟨R, 3, none⟩ y3).setCell ⟨R, 4, none⟩ y4).setCell ⟨R, 5, none⟩ y5) w.heap.size u v u2 v2 xs ys xs2 ys2 ∧
      Below w.heap.size w ((((((w2.setCell ⟨R, 0, none⟩ y0).setCell ⟨R, 1, none⟩ y1).setCell ⟨R, 2, none⟩ y2).setCell ⟨R, 3, none⟩ y3).setCell ⟨R, 4, none⟩ y4).setCell ⟨R, 5, none⟩ y5) :=
  ⟨((((((h.put hlo).put hlo).put hlo).put hlo).put hlo).put hlo).mono (by omega), below_put (below_put (below_put (below_put (below_put (below_put b hR) hR) hR) hR) hR) hR⟩
theorem below6 {w w2 : World} {n R : Nat} {y0 y1 y2 y3 y4 y5 : Value} (b : Below n w w2) (hR : n ≤ R) :
    Below n w ((((((w2.setCell ⟨R, 0, none⟩ y0).setCell ⟨R, 1, none⟩ y1).setCell ⟨R, 2, none⟩ y2).setCell ⟨R, 3, none⟩ y3).setCell ⟨R, 4, none⟩ y4).setCell ⟨R, 5, none⟩ y5) :=
  below_put (below_put (below_put (below_put (below_put (below_put b hR) hR) hR) hR) hR) hR
theorem frn {w : World} {lo : Nat} : FourF w lo (.slice none 0 0) (.slice none 0 0) (.slice none 0 0) (.slice none 0 0) [] [] [] [] := ⟨⟨frI_nil _ _, frI_nil _ _⟩, ⟨frI_nil _ _, frI_nil _ _⟩⟩

theorem specRatAdd_R (r s T : RA) (hT : addRA r s = T) (a : Option Addr) (ca : Nat) (b : Option Addr) (cb : Nat) (a2 : Option Addr) (ca2 : Nat) (b2 : Option Addr) (cb2 : Nat) (w : World) (i1 : IntsAt w a ca r.num) (i2 : IntsAt w b cb r.den) (hr : LenRA r) (i3 : IntsAt w a2 ca2 s.num) (i4 : IntsAt w b2 cb2 s.den) (hs : LenRA s) :
    Calls Try.prog 70 #[.agg #[.bool r.neg, .slice a r.num.length ca, .slice b r.den.length cb], .agg #[.bool s.neg, .slice a2 s.num.length ca2, .slice b2 s.den.length cb2]] w (RatRetS w T) := by
  subst hT
  exact specRatAdd_own r.neg a ca r.num b cb r.den s.neg a2 ca2 s.num b2 cb2 s.den w i1 hr.1 i2 hr.2 i3 hs.1 i4 hs.2

theorem specRatSub_R (r s T : RA) (hT : subRA r s = T) (a : Option Addr) (ca : Nat) (b : Option Addr) (cb : Nat) (a2 : Option Addr) (ca2 : Nat) (b2 : Option Addr) (cb2 : Nat) (w : World) (i1 : IntsAt w a ca r.num) (i2 : IntsAt w b cb r.den) (hr : LenRA r) (i3 : IntsAt w a2 ca2 s.num) (i4 : IntsAt w b2 cb2 s.den) (hs : LenRA s) :
    Calls Try.prog 72 #[.agg #[.bool r.neg, .slice a r.num.length ca, .slice b r.den.length cb], .agg #[.bool s.neg, .slice a2 s.num.length ca2, .slice b2 s.den.length cb2]] w (RatRetS w T) := by
  subst hT
  exact specRatSub_own r.neg a ca r.num b cb r.den s.neg a2 ca2 s.num b2 cb2 s.den w i1 hr.1 i2 hr.2 i3 hs.1 i4 hs.2

theorem specRatMul_R (r s T : RA) (hT : mulRA r s = T) (a : Option Addr) (ca : Nat) (b : Option Addr) (cb : Nat) (a2 : Option Addr) (ca2 : Nat) (b2 : Option Addr) (cb2 : Nat) (w : World) (i1 : IntsAt w a ca r.num) (i2 : IntsAt w b cb r.den) (hr : LenRA r) (i3 : IntsAt w a2 ca2 s.num) (i4 : IntsAt w b2 cb2 s.den) (hs : LenRA s) :
    Calls Try.prog 60 #[.agg #[.bool r.neg, .slice a r.num.length ca, .slice b r.den.length cb], .agg #[.bool s.neg, .slice a2 s.num.length ca2, .slice b2 s.den.length cb2]] w (RatRetS w T) := by
  subst hT
  exact specRatMul_own r.neg a ca r.num b cb r.den s.neg a2 ca2 s.num b2 cb2 s.den w i1 hr.1 i2 hr.2 i3 hs.1 i4 hs.2

theorem specRatOf12 (T : RA) (hT : ratOfP 1 2 = T) (w : World) : Calls Try.prog 46 #[.int .i64 1, .int .i64 2] w (RatRetS w T) := by
  subst hT
  exact specRatOf_own 1 2 w (by unfold In64; omega) (by unfold In64; omega)

section
variable (r s : RA) (a : Option Addr) (ca : Nat) (b : Option Addr) (cb : Nat) (a2 : Option Addr) (ca2 : Nat) (b2 : Option Addr) (cb2 : Nat) (w : World)
set_option maxHeartbeats 2000000 in
theorem specValid_R (lo : Nat) (h : FourF w lo (.slice a r.num.length ca) (.slice b r.den.length cb) (.slice a2 s.num.length ca2) (.slice b2 s.den.length cb2) r.num r.den s.num s.den) (hr : LenRA r) (hs : LenRA s) : Calls Try.prog 43 #[.agg #[.bool r.neg, .slice a r.num.length ca, .slice b r.den.length cb, .bool s.neg, .slice a2 s.num.length ca2, .slice b2 s.den.length cb2]] w fun e w' => e = .returned (.bool (okRA r && okRA s)) ∧ Below w.heap.size w w' := by
  have F := Lib.hid h
  clear h
  by_cases h1 : ratOkB r.neg r.num r.den = true
  · have e : (okRA r && okRA s) = ratOkB s.neg s.num s.den := by unfold okRA; rw [h1, Bool.true_and]
    rw [e]
    clear e
    go_enter Try.func43, Try.ntmps43
    go_wp2_with fail
    refine (specRatOk_any r.neg a ca r.num b cb r.den _ (F.out.i1.below (ba1 _ _)) hr.1 (F.out.i2.below (ba1 _ _)) hr.2).mono ?_
    rintro e W12 ⟨rfl, b12⟩
    have Rx := bx1_0 b12
    have B := Lib.hid (bstep (ba1 _ _) b12)
    have sb12 := b12.size
    try simp at sb12
    have Yx0 := Rx.cell 0 rfl
    have Yx1 := Rx.cell 1 rfl
    have Yx2 := Rx.cell 2 rfl
    have Yx3 := Rx.cell 3 rfl
    have Yx4 := Rx.cell 4 rfl
    have Yx5 := Rx.cell 5 rfl
    have Lx := Rx.lt
    clear b12
    go_wp2_with fail
    refine (specRatOk_any s.neg a2 ca2 s.num b2 cb2 s.den _ (F.out.i3.below B.out) hs.1 (F.out.i4.below B.out) hs.2).mono ?_
    rintro e W13 ⟨rfl, b13⟩
    clear Yx0 Yx1 Yx2 Yx3 Yx4 Yx5 Lx
    have Rx := box_step Rx b13
    have B := Lib.hid (bstep B.out b13)
    have sb13 := b13.size
    have Yx0 := Rx.cell 0 rfl
    have Yx1 := Rx.cell 1 rfl
    have Yx2 := Rx.cell 2 rfl
    have Yx3 := Rx.cell 3 rfl
    have Yx4 := Rx.cell 4 rfl
    have Yx5 := Rx.cell 5 rfl
    have Lx := Rx.lt
    clear b13
    go_wp2
    go_ret
    exact ⟨rfl, B.out⟩
  · have h1' := Bool.eq_false_iff.2 h1
    have e : (okRA r && okRA s) = false := by unfold okRA; rw [h1', Bool.false_and]
    rw [e]
    clear e h1
    go_enter Try.func43, Try.ntmps43
    go_wp2_with fail
    refine (specRatOk_any r.neg a ca r.num b cb r.den _ (F.out.i1.below (ba1 _ _)) hr.1 (F.out.i2.below (ba1 _ _)) hr.2).mono ?_
    rintro e W14 ⟨rfl, b14⟩
    have Rx := bx1_0 b14
    have B := Lib.hid (bstep (ba1 _ _) b14)
    have sb14 := b14.size
    try simp at sb14
    have Yx0 := Rx.cell 0 rfl
    have Yx1 := Rx.cell 1 rfl
    have Yx2 := Rx.cell 2 rfl
    have Yx3 := Rx.cell 3 rfl
    have Yx4 := Rx.cell 4 rfl
    have Yx5 := Rx.cell 5 rfl
    have Lx := Rx.lt
    clear b14
    go_wp2
    go_ret
    exact ⟨rfl, B.out⟩
set_option maxHeartbeats 2000000 in
theorem l05Valid_P (T : PT) (hT : validPT r s = T) (hr : RaOr r) (hs : RaOr s) (lo : Nat) (h : FourF w lo (.slice a r.num.length ca) (.slice b r.den.length cb) (.slice a2 s.num.length ca2) (.slice b2 s.den.length cb2) r.num r.den s.num s.den) : Calls Try.prog 123 #[.agg #[.bool r.neg, .slice a r.num.length ca, .slice b r.den.length cb, .bool s.neg, .slice a2 s.num.length ca2, .slice b2 s.den.length cb2]] w fun e w' => ∃ p c p2 c2 p3 c3 p4 c4, e = .returned (.agg #[.bool T.x.neg, .slice p T.x.num.length c, .slice p2 T.x.den.length c2, .bool T.y.neg, .slice p3 T.y.num.length c3, .slice p4 T.y.den.length c4]) ∧ FourF w' lo (.slice p T.x.num.length c) (.slice p2 T.x.den.length c2) (.slice p3 T.y.num.length c3) (.slice p4 T.y.den.length c4) T.x.num T.x.den T.y.num T.y.den ∧ Below w.heap.size w w' := by
  have F := Lib.hid h
  clear h
  by_cases h1 : (okRA r && okRA s) = true
  · have e : T = ⟨r, s⟩ := by rw [← hT]; unfold validPT; rw [if_pos h1]
    have HV : ∀ W, FourF W lo (.slice a r.num.length ca) (.slice b r.den.length cb) (.slice a2 s.num.length ca2) (.slice b2 s.den.length cb2) r.num r.den s.num s.den → Calls Try.prog 43 #[.agg #[.bool r.neg, .slice a r.num.length ca, .slice b r.den.length cb, .bool s.neg, .slice a2 s.num.length ca2, .slice b2 s.den.length cb2]] W fun e w' => e = .returned (.bool true) ∧ Below W.heap.size W w' := fun W hW => h1 ▸ specValid_R r s a ca b cb a2 ca2 b2 cb2 W lo hW hr.len' hs.len'
    have HVV := Lib.hid HV
    subst e
    clear HV h1 hT
    go_enter Try.func123, Try.ntmps123
    go_wp2_with fail
    refine (HVV.out _ (F.out.below (ba2 _ _ _))).mono ?_
    rintro e W15 ⟨rfl, b15⟩
    have Rx := bx2_0 b15
    have Rr := bx2_1 b15
    have B := Lib.hid (bstep (ba2 _ _ _) b15)
    have sb15 := b15.size
    try simp at sb15
    have Yx0 := Rx.cell 0 rfl
    have Yx1 := Rx.cell 1 rfl
    have Yx2 := Rx.cell 2 rfl
    have Yx3 := Rx.cell 3 rfl
    have Yx4 := Rx.cell 4 rfl
    have Yx5 := Rx.cell 5 rfl
    have Lx := Rx.lt
    have Yr0 := Rr.cell 0 rfl
    have Yr1 := Rr.cell 1 rfl
    have Yr2 := Rr.cell 2 rfl
    have Yr3 := Rr.cell 3 rfl
    have Yr4 := Rr.cell 4 rfl
    have Yr5 := Rr.cell 5 rfl
    have Lr := Rr.lt
    have Fr0 := Rr.frozen 0
    have Fr1 := Rr.frozen 1
    have Fr2 := Rr.frozen 2
    have Fr3 := Rr.frozen 3
    have Fr4 := Rr.frozen 4
    have Fr5 := Rr.frozen 5
    clear b15
    go_wp2
    refine bodyPost_ret (v := .agg #[.bool r.neg, .slice a r.num.length ca, .slice b r.den.length cb, .bool s.neg, .slice a2 s.num.length ca2, .slice b2 s.den.length cb2]) (by simp [results, Try.results123, go_sem, Yr0, Yr1, Yr2, Yr3, Yr4, Yr5, Lr]) rfl ⟨a, ca, b, cb, a2, ca2, b2, cb2, rfl, F.out.below (below6 B.out (by first | omega | (simp; done) | (simp; omega))), below6 B.out (by first | omega | (simp; done) | (simp; omega))⟩
  · have h1' := Bool.eq_false_iff.2 h1
    have e : T = zeroPT := by rw [← hT]; unfold validPT; rw [h1']; rfl
    have HV : ∀ W, FourF W lo (.slice a r.num.length ca) (.slice b r.den.length cb) (.slice a2 s.num.length ca2) (.slice b2 s.den.length cb2) r.num r.den s.num s.den → Calls Try.prog 43 #[.agg #[.bool r.neg, .slice a r.num.length ca, .slice b r.den.length cb, .bool s.neg, .slice a2 s.num.length ca2, .slice b2 s.den.length cb2]] W fun e w' => e = .returned (.bool false) ∧ Below W.heap.size W w' := fun W hW => h1' ▸ specValid_R r s a ca b cb a2 ca2 b2 cb2 W lo hW hr.len' hs.len'
    have HVV := Lib.hid HV
    subst e
    clear HV h1 h1' hT
    go_enter Try.func123, Try.ntmps123
    go_wp2_with fail
    refine (HVV.out _ (F.out.below (ba2 _ _ _))).mono ?_
    rintro e W16 ⟨rfl, b16⟩
    have Rx := bx2_0 b16
    have Rr := bx2_1 b16
    have B := Lib.hid (bstep (ba2 _ _ _) b16)
    have sb16 := b16.size
    try simp at sb16
    have Yx0 := Rx.cell 0 rfl
    have Yx1 := Rx.cell 1 rfl
    have Yx2 := Rx.cell 2 rfl
    have Yx3 := Rx.cell 3 rfl
    have Yx4 := Rx.cell 4 rfl
    have Yx5 := Rx.cell 5 rfl
    have Lx := Rx.lt
    have Yr0 := Rr.cell 0 rfl
    have Yr1 := Rr.cell 1 rfl
    have Yr2 := Rr.cell 2 rfl
    have Yr3 := Rr.cell 3 rfl
    have Yr4 := Rr.cell 4 rfl
    have Yr5 := Rr.cell 5 rfl
    have Lr := Rr.lt
    have Fr0 := Rr.frozen 0
    have Fr1 := Rr.frozen 1
    have Fr2 := Rr.frozen 2
    have Fr3 := Rr.frozen 3
    have Fr4 := Rr.frozen 4
    have Fr5 := Rr.frozen 5
    clear b16
    go_wp2
    refine bodyPost_ret (v := .agg #[.bool false, .slice none 0 0, .slice none 0 0, .bool false, .slice none 0 0, .slice none 0 0]) (by simp [results, Try.results123, go_sem, Yr0, Yr1, Yr2, Yr3, Yr4, Yr5, Lr]) rfl ⟨none, 0, none, 0, none, 0, none, 0, rfl, frn, below6 B.out (by first | omega | (simp; done) | (simp; omega))⟩
end

set_option maxHeartbeats 2000000 in
theorem specIsValidPoint_any (n : Bool) (a : Option Addr) (ca : Nat) (xs : List Int) (b : Option Addr) (cb : Nat) (ds : List Int) (m : Bool) (a2 : Option Addr) (ca2 : Nat) (ys : List Int) (b2 : Option Addr) (cb2 : Nat) (es : List Int) (w : World) (ha : IntsAt w a ca xs) (hn : xs.length ≤ 1048576) (hb : IntsAt w b cb ds) (hm : ds.length ≤ 1048576) (ha2 : IntsAt w a2 ca2 ys) (hn2 : ys.length ≤ 1048576) (hb2 : IntsAt w b2 cb2 es) (hm2 : es.length ≤ 1048576) : Calls Try.prog 43 #[.agg #[.bool n, .slice a xs.length ca, .slice b ds.length cb, .bool m, .slice a2 ys.length ca2, .slice b2 es.length cb2]] w fun e w' => e = .returned (.bool (ratOkB n xs ds && ratOkB m ys es)) ∧ Below w.heap.size w w' := by
  have f : FourF w 0 (.slice a xs.length ca) (.slice b ds.length cb) (.slice a2 ys.length ca2) (.slice b2 es.length cb2) xs ds ys es := ⟨⟨⟨_, _, rfl, ha, fun _ _ => Nat.zero_le _⟩, ⟨_, _, rfl, hb, fun _ _ => Nat.zero_le _⟩⟩, ⟨⟨_, _, rfl, ha2, fun _ _ => Nat.zero_le _⟩, ⟨_, _, rfl, hb2, fun _ _ => Nat.zero_le _⟩⟩⟩
  exact specValid_R ⟨n, xs, ds⟩ ⟨m, ys, es⟩ a ca b cb a2 ca2 b2 cb2 w 0 f ⟨hn, hm⟩ ⟨hn2, hm2⟩

set_option maxHeartbeats 2000000 in
theorem specPointAt_own (x y : Int) (w : World) (hx : In64 x) (hy : In64 y) : Calls Try.prog 31 #[.int .i64 x, .int .i64 y] w (PtRetS w ⟨ratIntP x, ratIntP y⟩) := by
  have HX := Lib.hid hx
  have HY := Lib.hid hy
  clear hx hy
  go_enter Try.func31, Try.ntmps31
  go_wp2_with fail
  refine (specRatFromInt_own x _ HX.out).mono ?_
  rintro e W17 ⟨sp0, sd0, sp1, sd1, rfl, hO1, b17⟩
  have Rr := bx1_0 b17
  have B := Lib.hid (bstep (ba1 _ _) b17)
  have sb17 := b17.size
  try simp at sb17
  have O1 := Lib.hid hO1
  clear hO1
  have Yr0 := Rr.cell 0 rfl
  have Yr1 := Rr.cell 1 rfl
  have Yr2 := Rr.cell 2 rfl
  have Yr3 := Rr.cell 3 rfl
  have Yr4 := Rr.cell 4 rfl
  have Yr5 := Rr.cell 5 rfl
  have Lr := Rr.lt
  have Fr0 := Rr.frozen 0
  have Fr1 := Rr.frozen 1
  have Fr2 := Rr.frozen 2
  have Fr3 := Rr.frozen 3
  have Fr4 := Rr.frozen 4
  have Fr5 := Rr.frozen 5
  clear b17
  go_wp2_with fail
  refine (specRatFromInt_own y _ HY.out).mono ?_
  rintro e W18 ⟨sp2, sd2, sp3, sd3, rfl, hO2, b18⟩
  clear Yr0 Yr1 Yr2 Yr3 Yr4 Yr5 Lr Fr0 Fr1 Fr2 Fr3 Fr4 Fr5
  have Rr := box_step Rr b18
  have B := Lib.hid (bstep B.out b18)
  have O1 := Lib.hid (O1.out.below b18)
  have sb18 := b18.size
  have O2 := Lib.hid hO2
  clear hO2
  have Yr0 := Rr.cell 0 rfl
  have Yr1 := Rr.cell 1 rfl
  have Yr2 := Rr.cell 2 rfl
  have Yr3 := Rr.cell 3 rfl
  have Yr4 := Rr.cell 4 rfl
  have Yr5 := Rr.cell 5 rfl
  have Lr := Rr.lt
  have Fr0 := Rr.frozen 0
  have Fr1 := Rr.frozen 1
  have Fr2 := Rr.frozen 2
  have Fr3 := Rr.frozen 3
  have Fr4 := Rr.frozen 4
  have Fr5 := Rr.frozen 5
  clear b18
  go_wp2
  refine bodyPost_ret (v := .agg #[.bool (ratIntP x).neg, .slice sp0 (ratIntP x).num.length sd0, .slice sp1 (ratIntP x).den.length sd1, .bool (ratIntP y).neg, .slice sp2 (ratIntP y).num.length sd2, .slice sp3 (ratIntP y).den.length sd3]) (by simp [results, Try.results31, go_sem, Yr0, Yr1, Yr2, Yr3, Yr4, Yr5, Lr]) rfl ⟨sp0, sd0, sp1, sd1, sp2, sd2, sp3, sd3, rfl, ptF_end (by first | omega | (simp; done) | (simp; omega)) (by first | omega | (simp; done) | (simp; omega)) (FourF.of O1.out O2.out (Nat.le_refl _) (by first | omega | (simp; done) | (simp; omega))) B.out⟩
set_option maxHeartbeats 2000000 in
theorem specHalfPoint_own (x y : Int) (w : World) (hx : In64 x) (hy : In64 y) : Calls Try.prog 54 #[.int .i64 x, .int .i64 y] w (PtRetS w ⟨ratOfP x 2, ratOfP y 2⟩) := by
  have HX := Lib.hid hx
  have HY := Lib.hid hy
  have K := Lib.hid (show In64 2 by unfold In64; omega)
  clear hx hy
  go_enter Try.func54, Try.ntmps54
  go_wp2_with fail
  refine (specRatOf_own x 2 _ HX.out K.out).mono ?_
  rintro e W19 ⟨sp0, sd0, sp1, sd1, rfl, hO1, b19⟩
  have Rr := bx1_0 b19
  have B := Lib.hid (bstep (ba1 _ _) b19)
  have sb19 := b19.size
  try simp at sb19
  have O1 := Lib.hid hO1
  clear hO1
  have Yr0 := Rr.cell 0 rfl
  have Yr1 := Rr.cell 1 rfl
  have Yr2 := Rr.cell 2 rfl
  have Yr3 := Rr.cell 3 rfl
  have Yr4 := Rr.cell 4 rfl
  have Yr5 := Rr.cell 5 rfl
  have Lr := Rr.lt
  have Fr0 := Rr.frozen 0
  have Fr1 := Rr.frozen 1
  have Fr2 := Rr.frozen 2
  have Fr3 := Rr.frozen 3
  have Fr4 := Rr.frozen 4
  have Fr5 := Rr.frozen 5
  clear b19
  go_wp2_with fail
  refine (specRatOf_own y 2 _ HY.out K.out).mono ?_
  rintro e W20 ⟨sp2, sd2, sp3, sd3, rfl, hO2, b20⟩
  clear Yr0 Yr1 Yr2 Yr3 Yr4 Yr5 Lr Fr0 Fr1 Fr2 Fr3 Fr4 Fr5
  have Rr := box_step Rr b20
  have B := Lib.hid (bstep B.out b20)
  have O1 := Lib.hid (O1.out.below b20)
  have sb20 := b20.size
  have O2 := Lib.hid hO2
  clear hO2
  have Yr0 := Rr.cell 0 rfl
  have Yr1 := Rr.cell 1 rfl
  have Yr2 := Rr.cell 2 rfl
  have Yr3 := Rr.cell 3 rfl
  have Yr4 := Rr.cell 4 rfl
  have Yr5 := Rr.cell 5 rfl
  have Lr := Rr.lt
  have Fr0 := Rr.frozen 0
  have Fr1 := Rr.frozen 1
  have Fr2 := Rr.frozen 2
  have Fr3 := Rr.frozen 3
  have Fr4 := Rr.frozen 4
  have Fr5 := Rr.frozen 5
  clear b20
  go_wp2
  refine bodyPost_ret (v := .agg #[.bool (ratOfP x 2).neg, .slice sp0 (ratOfP x 2).num.length sd0, .slice sp1 (ratOfP x 2).den.length sd1, .bool (ratOfP y 2).neg, .slice sp2 (ratOfP y 2).num.length sd2, .slice sp3 (ratOfP y 2).den.length sd3]) (by simp [results, Try.results54, go_sem, Yr0, Yr1, Yr2, Yr3, Yr4, Yr5, Lr]) rfl ⟨sp0, sd0, sp1, sd1, sp2, sd2, sp3, sd3, rfl, ptF_end (by first | omega | (simp; done) | (simp; omega)) (by first | omega | (simp; done) | (simp; omega)) (FourF.of O1.out O2.out (Nat.le_refl _) (by first | omega | (simp; done) | (simp; omega))) B.out⟩
theorem specPointAt_any (x y : Int) (w : World) (hx : In64 x) (hy : In64 y) : Calls Try.prog 31 #[.int .i64 x, .int .i64 y] w fun e w' => ∃ p c p2 c2 p3 c3 p4 c4, e = .returned (.agg #[.bool (⟨ratIntP x, ratIntP y⟩ : PT).x.neg, .slice p (⟨ratIntP x, ratIntP y⟩ : PT).x.num.length c, .slice p2 (⟨ratIntP x, ratIntP y⟩ : PT).x.den.length c2, .bool (⟨ratIntP x, ratIntP y⟩ : PT).y.neg, .slice p3 (⟨ratIntP x, ratIntP y⟩ : PT).y.num.length c3, .slice p4 (⟨ratIntP x, ratIntP y⟩ : PT).y.den.length c4]) ∧ IntsAt w' p c (⟨ratIntP x, ratIntP y⟩ : PT).x.num ∧ IntsAt w' p2 c2 (⟨ratIntP x, ratIntP y⟩ : PT).x.den ∧ IntsAt w' p3 c3 (⟨ratIntP x, ratIntP y⟩ : PT).y.num ∧ IntsAt w' p4 c4 (⟨ratIntP x, ratIntP y⟩ : PT).y.den ∧ Below w.heap.size w w' :=
  (specPointAt_own x y w hx hy).mono fun _ _ ⟨p, c, p2, c2, p3, c3, p4, c4, h1, h2, h3⟩ => ⟨p, c, p2, c2, p3, c3, p4, c4, h1, h2.i1, h2.i2, h2.i3, h2.i4, h3⟩
theorem specHalfPoint_any (x y : Int) (w : World) (hx : In64 x) (hy : In64 y) : Calls Try.prog 54 #[.int .i64 x, .int .i64 y] w fun e w' => ∃ p c p2 c2 p3 c3 p4 c4, e = .returned (.agg #[.bool (⟨ratOfP x 2, ratOfP y 2⟩ : PT).x.neg, .slice p (⟨ratOfP x 2, ratOfP y 2⟩ : PT).x.num.length c, .slice p2 (⟨ratOfP x 2, ratOfP y 2⟩ : PT).x.den.length c2, .bool (⟨ratOfP x 2, ratOfP y 2⟩ : PT).y.neg, .slice p3 (⟨ratOfP x 2, ratOfP y 2⟩ : PT).y.num.length c3, .slice p4 (⟨ratOfP x 2, ratOfP y 2⟩ : PT).y.den.length c4]) ∧ IntsAt w' p c (⟨ratOfP x 2, ratOfP y 2⟩ : PT).x.num ∧ IntsAt w' p2 c2 (⟨ratOfP x 2, ratOfP y 2⟩ : PT).x.den ∧ IntsAt w' p3 c3 (⟨ratOfP x 2, ratOfP y 2⟩ : PT).y.num ∧ IntsAt w' p4 c4 (⟨ratOfP x 2, ratOfP y 2⟩ : PT).y.den ∧ Below w.heap.size w w' :=
  (specHalfPoint_own x y w hx hy).mono fun _ _ ⟨p, c, p2, c2, p3, c3, p4, c4, h1, h2, h3⟩ => ⟨p, c, p2, c2, p3, c3, p4, c4, h1, h2.i1, h2.i2, h2.i3, h2.i4, h3⟩

set_option maxRecDepth 100000 in
set_option maxHeartbeats 4000000 in
theorem specAddPoints_P (p : PT) (q : PT) (T : PT) (hT : addPT p q = T) (pa0 : Option Addr) (pc0 : Nat) (pa1 : Option Addr) (pc1 : Nat) (pa2 : Option Addr) (pc2 : Nat) (pa3 : Option Addr) (pc3 : Nat) (qa0 : Option Addr) (qc0 : Nat) (qa1 : Option Addr) (qc1 : Nat) (qa2 : Option Addr) (qc2 : Nat) (qa3 : Option Addr) (qc3 : Nat) (w : World) (pi0 : IntsAt w pa0 pc0 p.x.num) (pi1 : IntsAt w pa1 pc1 p.x.den) (pi2 : IntsAt w pa2 pc2 p.y.num) (pi3 : IntsAt w pa3 pc3 p.y.den) (pl : LenPT p) (qi0 : IntsAt w qa0 qc0 q.x.num) (qi1 : IntsAt w qa1 qc1 q.x.den) (qi2 : IntsAt w qa2 qc2 q.y.num) (qi3 : IntsAt w qa3 qc3 q.y.den) (ql : LenPT q) : Calls Try.prog 78 #[.agg #[.bool p.x.neg, .slice pa0 p.x.num.length pc0, .slice pa1 p.x.den.length pc1, .bool p.y.neg, .slice pa2 p.y.num.length pc2, .slice pa3 p.y.den.length pc3], .agg #[.bool q.x.neg, .slice qa0 q.x.num.length qc0, .slice qa1 q.x.den.length qc1, .bool q.y.neg, .slice qa2 q.y.num.length qc2, .slice qa3 q.y.den.length qc3]] w (PtRetS w T) := by
  obtain ⟨R0, h0⟩ : ∃ R, addRA p.x q.x = R := ⟨_, rfl⟩
  have o0 : RaOr R0 := by rw [← h0]; exact raOr_add _ _ _ _ _ _
  have l0 := o0.len'
  have H0 := Lib.hid h0
  obtain ⟨R1, h1⟩ : ∃ R, addRA p.y q.y = R := ⟨_, rfl⟩
  have o1 : RaOr R1 := by rw [← h1]; exact raOr_add _ _ _ _ _ _
  have l1 := o1.len'
  have H1 := Lib.hid h1
  have H2 : Hid (validPT R0 R1 = T) := by unfold Hid; rw [← hT, ← h0, ← h1]; rfl
  clear hT h0 h1
  have pH0 := Lib.hid pi0
  have pH1 := Lib.hid pi1
  have pH2 := Lib.hid pi2
  have pH3 := Lib.hid pi3
  have qH0 := Lib.hid qi0
  have qH1 := Lib.hid qi1
  have qH2 := Lib.hid qi2
  have qH3 := Lib.hid qi3
  clear pi0 pi1 pi2 pi3 qi0 qi1 qi2 qi3
  have BR : Below (((w.alloc (.cells #[.bool p.x.neg, .slice pa0 p.x.num.length pc0, .slice pa1 p.x.den.length pc1, .bool p.y.neg, .slice pa2 p.y.num.length pc2, .slice pa3 p.y.den.length pc3] 32)).alloc (.cells #[.bool q.x.neg, .slice qa0 q.x.num.length qc0, .slice qa1 q.x.den.length qc1, .bool q.y.neg, .slice qa2 q.y.num.length qc2, .slice qa3 q.y.den.length qc3] 32)).alloc (.cells #[.bool false, .slice none 0 0, .slice none 0 0, .bool false, .slice none 0 0, .slice none 0 0] 32)).heap.size (((w.alloc (.cells #[.bool p.x.neg, .slice pa0 p.x.num.length pc0, .slice pa1 p.x.den.length pc1, .bool p.y.neg, .slice pa2 p.y.num.length pc2, .slice pa3 p.y.den.length pc3] 32)).alloc (.cells #[.bool q.x.neg, .slice qa0 q.x.num.length qc0, .slice qa1 q.x.den.length qc1, .bool q.y.neg, .slice qa2 q.y.num.length qc2, .slice qa3 q.y.den.length qc3] 32)).alloc (.cells #[.bool false, .slice none 0 0, .slice none 0 0, .bool false, .slice none 0 0, .slice none 0 0] 32)) (((w.alloc (.cells #[.bool p.x.neg, .slice pa0 p.x.num.length pc0, .slice pa1 p.x.den.length pc1, .bool p.y.neg, .slice pa2 p.y.num.length pc2, .slice pa3 p.y.den.length pc3] 32)).alloc (.cells #[.bool q.x.neg, .slice qa0 q.x.num.length qc0, .slice qa1 q.x.den.length qc1, .bool q.y.neg, .slice qa2 q.y.num.length qc2, .slice qa3 q.y.den.length qc3] 32)).alloc (.cells #[.bool false, .slice none 0 0, .slice none 0 0, .bool false, .slice none 0 0, .slice none 0 0] 32)) := Below.refl _ _
  have Rx := bx3_0 BR
  have Ry := bx3_1 BR
  have Rr := bx3_2 BR
  have B : Hid (Below w.heap.size w (((w.alloc (.cells #[.bool p.x.neg, .slice pa0 p.x.num.length pc0, .slice pa1 p.x.den.length pc1, .bool p.y.neg, .slice pa2 p.y.num.length pc2, .slice pa3 p.y.den.length pc3] 32)).alloc (.cells #[.bool q.x.neg, .slice qa0 q.x.num.length qc0, .slice qa1 q.x.den.length qc1, .bool q.y.neg, .slice qa2 q.y.num.length qc2, .slice qa3 q.y.den.length qc3] 32)).alloc (.cells #[.bool false, .slice none 0 0, .slice none 0 0, .bool false, .slice none 0 0, .slice none 0 0] 32))) := Lib.hid (ba3 _ _ _ _)
  have Yx0 := Rx.c0
  have Yx1 := Rx.c1
  have Yx2 := Rx.c2
  have Yx3 := Rx.c3
  have Yx4 := Rx.c4
  have Yx5 := Rx.c5
  have Yy0 := Ry.c0
  have Yy1 := Ry.c1
  have Yy2 := Ry.c2
  have Yy3 := Ry.c3
  have Yy4 := Ry.c4
  have Yy5 := Ry.c5
  have Yr0 := Rr.c0
  have Yr1 := Rr.c1
  have Yr2 := Rr.c2
  have Yr3 := Rr.c3
  have Yr4 := Rr.c4
  have Yr5 := Rr.c5
  clear BR
  go_enter Try.func78, Try.ntmps78
  have tok21 : True := trivial
  have tok22 : True := trivial
  go_wp2_with fail
  go_region_held3 (fun w' => w'.cell? ⟨w.heap.size, 0, none⟩ = some (.bool p.x.neg) ∧ w'.cell? ⟨w.heap.size, 1, none⟩ = some (.slice pa0 p.x.num.length pc0) ∧ w'.cell? ⟨w.heap.size, 2, none⟩ = some (.slice pa1 p.x.den.length pc1) ∧ w'.cell? ⟨w.heap.size, 3, none⟩ = some (.bool p.y.neg) ∧ w'.cell? ⟨w.heap.size, 4, none⟩ = some (.slice pa2 p.y.num.length pc2) ∧ w'.cell? ⟨w.heap.size, 5, none⟩ = some (.slice pa3 p.y.den.length pc3) ∧ w'.cell? ⟨w.heap.size + 1, 0, none⟩ = some (.bool q.x.neg) ∧ w'.cell? ⟨w.heap.size + 1, 1, none⟩ = some (.slice qa0 q.x.num.length qc0) ∧ w'.cell? ⟨w.heap.size + 1, 2, none⟩ = some (.slice qa1 q.x.den.length qc1) ∧ w'.cell? ⟨w.heap.size + 1, 3, none⟩ = some (.bool q.y.neg) ∧ w'.cell? ⟨w.heap.size + 1, 4, none⟩ = some (.slice qa2 q.y.num.length qc2) ∧ w'.cell? ⟨w.heap.size + 1, 5, none⟩ = some (.slice qa3 q.y.den.length qc3))
    ((refine ⟨?_, ?_, ?_, ?_, ?_, ?_, ?_, ?_, ?_, ?_, ?_, ?_⟩ <;> (repeat first | with_reducible assumption | with_reducible refine cell_low ?_ (by first | (simp; done) | (simp; omega) | omega) | with_reducible refine cell_step ?_ b21 | with_reducible refine cell_step ?_ b22 | with_reducible refine cell_step ?_ b23 | with_reducible refine cell_dr ?_)))
    (first | (go_at_call 70; clear tok21; refine (specRatAdd_R p.x q.x R0 H0.out pa0 pc0 pa1 pc1 qa0 qc0 qa1 qc1 _ (pH0.out.below (B.out.drew)) (pH1.out.below (B.out.drew)) pl.x (qH0.out.below (B.out.drew)) (qH1.out.below (B.out.drew)) ql.x).mono ?_; rintro e W21 ⟨s0p0, s0d0, s0p1, s0d1, rfl, hO0, b21⟩; have s21 := b21.size; (try simp at s21)) | (go_at_call 70; clear tok22; refine (specRatAdd_R p.y q.y R1 H1.out pa2 pc2 pa3 pc3 qa2 qc2 qa3 qc3 _ (pH2.out.below (bstepD B.out b21)) (pH3.out.below (bstepD B.out b21)) pl.y (qH2.out.below (bstepD B.out b21)) (qH3.out.below (bstepD B.out b21)) ql.y).mono ?_; rintro e W22 ⟨s1p0, s1d0, s1p1, s1d1, rfl, hO1, b22⟩; have s22 := b22.size; (try simp at s22)) | (go_at_call 123; refine (l05Valid_P R0 R1 s0p0 s0d0 s0p1 s0d1 s1p0 s1d0 s1p1 s1d1 _ T H2.out o0 o1 (w.heap.size + 3) (FourF.of (hO0.below b22) hO1 (by first | omega | (simp; done) | (simp; omega)) (by first | omega | (simp; done) | (simp; omega)))).mono ?_; rintro e W23 ⟨s2p0, s2d0, s2p1, s2d1, s2p2, s2d2, s2p3, s2d3, rfl, hO2, b23⟩; have s23 := b23.size; (try simp at s23); have Rr := (box_step (box_step (box_step (box_drew Rr) b21) b22) b23); have Yr0 := Rr.cell 0 rfl; have Fr0 := Rr.frozen 0; have Yr1 := Rr.cell 1 rfl; have Fr1 := Rr.frozen 1; have Yr2 := Rr.cell 2 rfl; have Fr2 := Rr.frozen 2; have Yr3 := Rr.cell 3 rfl; have Fr3 := Rr.frozen 3; have Yr4 := Rr.cell 4 rfl; have Fr4 := Rr.frozen 4; have Yr5 := Rr.cell 5 rfl; have Fr5 := Rr.frozen 5; have Lr := Rr.lt))
  have sb21 := b21.size
  try simp at sb21
  have sb22 := b22.size
  have sb23 := b23.size
  have O0 := Lib.hid (((hO0.below b22).below b23))
  clear hO0
  have O1 := Lib.hid ((hO1.below b23))
  clear hO1
  have O2 := Lib.hid (hO2)
  clear hO2
  have B := Lib.hid (bstep (bstep (bstepD B.out b21) b22) b23)
  clear b21 b22 b23
  go_wp2
  refine bodyPost_ret (v := .agg #[.bool T.x.neg, .slice s2p0 T.x.num.length s2d0, .slice s2p1 T.x.den.length s2d1, .bool T.y.neg, .slice s2p2 T.y.num.length s2d2, .slice s2p3 T.y.den.length s2d3]) (by simp [results, Try.results78, go_sem, Yr0, Yr1, Yr2, Yr3, Yr4, Yr5, Lr]) rfl ⟨s2p0, s2d0, s2p1, s2d1, s2p2, s2d2, s2p3, s2d3, rfl, ptF_end (by first | omega | (simp; done) | (simp; omega)) (by first | omega | (simp; done) | (simp; omega)) O2.out B.out⟩

set_option maxRecDepth 100000 in
set_option maxHeartbeats 4000000 in
theorem specSubtractPoints_P (p : PT) (q : PT) (T : PT) (hT : subPT p q = T) (pa0 : Option Addr) (pc0 : Nat) (pa1 : Option Addr) (pc1 : Nat) (pa2 : Option Addr) (pc2 : Nat) (pa3 : Option Addr) (pc3 : Nat) (qa0 : Option Addr) (qc0 : Nat) (qa1 : Option Addr) (qc1 : Nat) (qa2 : Option Addr) (qc2 : Nat) (qa3 : Option Addr) (qc3 : Nat) (w : World) (pi0 : IntsAt w pa0 pc0 p.x.num) (pi1 : IntsAt w pa1 pc1 p.x.den) (pi2 : IntsAt w pa2 pc2 p.y.num) (pi3 : IntsAt w pa3 pc3 p.y.den) (pl : LenPT p) (qi0 : IntsAt w qa0 qc0 q.x.num) (qi1 : IntsAt w qa1 qc1 q.x.den) (qi2 : IntsAt w qa2 qc2 q.y.num) (qi3 : IntsAt w qa3 qc3 q.y.den) (ql : LenPT q) : Calls Try.prog 80 #[.agg #[.bool p.x.neg, .slice pa0 p.x.num.length pc0, .slice pa1 p.x.den.length pc1, .bool p.y.neg, .slice pa2 p.y.num.length pc2, .slice pa3 p.y.den.length pc3], .agg #[.bool q.x.neg, .slice qa0 q.x.num.length qc0, .slice qa1 q.x.den.length qc1, .bool q.y.neg, .slice qa2 q.y.num.length qc2, .slice qa3 q.y.den.length qc3]] w (PtRetS w T) := by
  obtain ⟨R0, h0⟩ : ∃ R, subRA p.x q.x = R := ⟨_, rfl⟩
  have o0 : RaOr R0 := by rw [← h0]; exact raOr_sub _ _ _ _ _ _
  have l0 := o0.len'
  have H0 := Lib.hid h0
  obtain ⟨R1, h1⟩ : ∃ R, subRA p.y q.y = R := ⟨_, rfl⟩
  have o1 : RaOr R1 := by rw [← h1]; exact raOr_sub _ _ _ _ _ _
  have l1 := o1.len'
  have H1 := Lib.hid h1
  have H2 : Hid (validPT R0 R1 = T) := by unfold Hid; rw [← hT, ← h0, ← h1]; rfl
  clear hT h0 h1
  have pH0 := Lib.hid pi0
  have pH1 := Lib.hid pi1
  have pH2 := Lib.hid pi2
  have pH3 := Lib.hid pi3
  have qH0 := Lib.hid qi0
  have qH1 := Lib.hid qi1
  have qH2 := Lib.hid qi2
  have qH3 := Lib.hid qi3
  clear pi0 pi1 pi2 pi3 qi0 qi1 qi2 qi3
  have BR : Below (((w.alloc (.cells #[.bool p.x.neg, .slice pa0 p.x.num.length pc0, .slice pa1 p.x.den.length pc1, .bool p.y.neg, .slice pa2 p.y.num.length pc2, .slice pa3 p.y.den.length pc3] 32)).alloc (.cells #[.bool q.x.neg, .slice qa0 q.x.num.length qc0, .slice qa1 q.x.den.length qc1, .bool q.y.neg, .slice qa2 q.y.num.length qc2, .slice qa3 q.y.den.length qc3] 32)).alloc (.cells #[.bool false, .slice none 0 0, .slice none 0 0, .bool false, .slice none 0 0, .slice none 0 0] 32)).heap.size (((w.alloc (.cells #[.bool p.x.neg, .slice pa0 p.x.num.length pc0, .slice pa1 p.x.den.length pc1, .bool p.y.neg, .slice pa2 p.y.num.length pc2, .slice pa3 p.y.den.length pc3] 32)).alloc (.cells #[.bool q.x.neg, .slice qa0 q.x.num.length qc0, .slice qa1 q.x.den.length qc1, .bool q.y.neg, .slice qa2 q.y.num.length qc2, .slice qa3 q.y.den.length qc3] 32)).alloc (.cells #[.bool false, .slice none 0 0, .slice none 0 0, .bool false, .slice none 0 0, .slice none 0 0] 32)) (((w.alloc (.cells #[.bool p.x.neg, .slice pa0 p.x.num.length pc0, .slice pa1 p.x.den.length pc1, .bool p.y.neg, .slice pa2 p.y.num.length pc2, .slice pa3 p.y.den.length pc3] 32)).alloc (.cells #[.bool q.x.neg, .slice qa0 q.x.num.length qc0, .slice qa1 q.x.den.length qc1, .bool q.y.neg, .slice qa2 q.y.num.length qc2, .slice qa3 q.y.den.length qc3] 32)).alloc (.cells #[.bool false, .slice none 0 0, .slice none 0 0, .bool false, .slice none 0 0, .slice none 0 0] 32)) := Below.refl _ _
  have Rx := bx3_0 BR
  have Ry := bx3_1 BR
  have Rr := bx3_2 BR
  have B : Hid (Below w.heap.size w (((w.alloc (.cells #[.bool p.x.neg, .slice pa0 p.x.num.length pc0, .slice pa1 p.x.den.length pc1, .bool p.y.neg, .slice pa2 p.y.num.length pc2, .slice pa3 p.y.den.length pc3] 32)).alloc (.cells #[.bool q.x.neg, .slice qa0 q.x.num.length qc0, .slice qa1 q.x.den.length qc1, .bool q.y.neg, .slice qa2 q.y.num.length qc2, .slice qa3 q.y.den.length qc3] 32)).alloc (.cells #[.bool false, .slice none 0 0, .slice none 0 0, .bool false, .slice none 0 0, .slice none 0 0] 32))) := Lib.hid (ba3 _ _ _ _)
  have Yx0 := Rx.c0
  have Yx1 := Rx.c1
  have Yx2 := Rx.c2
  have Yx3 := Rx.c3
  have Yx4 := Rx.c4
  have Yx5 := Rx.c5
  have Yy0 := Ry.c0
  have Yy1 := Ry.c1
  have Yy2 := Ry.c2
  have Yy3 := Ry.c3
  have Yy4 := Ry.c4
  have Yy5 := Ry.c5
  have Yr0 := Rr.c0
  have Yr1 := Rr.c1
  have Yr2 := Rr.c2
  have Yr3 := Rr.c3
  have Yr4 := Rr.c4
  have Yr5 := Rr.c5
  clear BR
  go_enter Try.func80, Try.ntmps80
  have tok24 : True := trivial
  have tok25 : True := trivial
  go_wp2_with fail
  go_region_held3 (fun w' => w'.cell? ⟨w.heap.size, 0, none⟩ = some (.bool p.x.neg) ∧ w'.cell? ⟨w.heap.size, 1, none⟩ = some (.slice pa0 p.x.num.length pc0) ∧ w'.cell? ⟨w.heap.size, 2, none⟩ = some (.slice pa1 p.x.den.length pc1) ∧ w'.cell? ⟨w.heap.size, 3, none⟩ = some (.bool p.y.neg) ∧ w'.cell? ⟨w.heap.size, 4, none⟩ = some (.slice pa2 p.y.num.length pc2) ∧ w'.cell? ⟨w.heap.size, 5, none⟩ = some (.slice pa3 p.y.den.length pc3) ∧ w'.cell? ⟨w.heap.size + 1, 0, none⟩ = some (.bool q.x.neg) ∧ w'.cell? ⟨w.heap.size + 1, 1, none⟩ = some (.slice qa0 q.x.num.length qc0) ∧ w'.cell? ⟨w.heap.size + 1, 2, none⟩ = some (.slice qa1 q.x.den.length qc1) ∧ w'.cell? ⟨w.heap.size + 1, 3, none⟩ = some (.bool q.y.neg) ∧ w'.cell? ⟨w.heap.size + 1, 4, none⟩ = some (.slice qa2 q.y.num.length qc2) ∧ w'.cell? ⟨w.heap.size + 1, 5, none⟩ = some (.slice qa3 q.y.den.length qc3))
    ((refine ⟨?_, ?_, ?_, ?_, ?_, ?_, ?_, ?_, ?_, ?_, ?_, ?_⟩ <;> (repeat first | with_reducible assumption | with_reducible refine cell_low ?_ (by first | (simp; done) | (simp; omega) | omega) | with_reducible refine cell_step ?_ b24 | with_reducible refine cell_step ?_ b25 | with_reducible refine cell_step ?_ b26 | with_reducible refine cell_dr ?_)))
    (first | (go_at_call 72; clear tok24; refine (specRatSub_R p.x q.x R0 H0.out pa0 pc0 pa1 pc1 qa0 qc0 qa1 qc1 _ (pH0.out.below (B.out.drew)) (pH1.out.below (B.out.drew)) pl.x (qH0.out.below (B.out.drew)) (qH1.out.below (B.out.drew)) ql.x).mono ?_; rintro e W24 ⟨s0p0, s0d0, s0p1, s0d1, rfl, hO0, b24⟩; have s24 := b24.size; (try simp at s24)) | (go_at_call 72; clear tok25; refine (specRatSub_R p.y q.y R1 H1.out pa2 pc2 pa3 pc3 qa2 qc2 qa3 qc3 _ (pH2.out.below (bstepD B.out b24)) (pH3.out.below (bstepD B.out b24)) pl.y (qH2.out.below (bstepD B.out b24)) (qH3.out.below (bstepD B.out b24)) ql.y).mono ?_; rintro e W25 ⟨s1p0, s1d0, s1p1, s1d1, rfl, hO1, b25⟩; have s25 := b25.size; (try simp at s25)) | (go_at_call 123; refine (l05Valid_P R0 R1 s0p0 s0d0 s0p1 s0d1 s1p0 s1d0 s1p1 s1d1 _ T H2.out o0 o1 (w.heap.size + 3) (FourF.of (hO0.below b25) hO1 (by first | omega | (simp; done) | (simp; omega)) (by first | omega | (simp; done) | (simp; omega)))).mono ?_; rintro e W26 ⟨s2p0, s2d0, s2p1, s2d1, s2p2, s2d2, s2p3, s2d3, rfl, hO2, b26⟩; have s26 := b26.size; (try simp at s26); have Rr := (box_step (box_step (box_step (box_drew Rr) b24) b25) b26); have Yr0 := Rr.cell 0 rfl; have Fr0 := Rr.frozen 0; have Yr1 := Rr.cell 1 rfl; have Fr1 := Rr.frozen 1; have Yr2 := Rr.cell 2 rfl; have Fr2 := Rr.frozen 2; have Yr3 := Rr.cell 3 rfl; have Fr3 := Rr.frozen 3; have Yr4 := Rr.cell 4 rfl; have Fr4 := Rr.frozen 4; have Yr5 := Rr.cell 5 rfl; have Fr5 := Rr.frozen 5; have Lr := Rr.lt))
  have sb24 := b24.size
  try simp at sb24
  have sb25 := b25.size
  have sb26 := b26.size
  have O0 := Lib.hid (((hO0.below b25).below b26))
  clear hO0
  have O1 := Lib.hid ((hO1.below b26))
  clear hO1
  have O2 := Lib.hid (hO2)
  clear hO2
  have B := Lib.hid (bstep (bstep (bstepD B.out b24) b25) b26)
  clear b24 b25 b26
  go_wp2
  refine bodyPost_ret (v := .agg #[.bool T.x.neg, .slice s2p0 T.x.num.length s2d0, .slice s2p1 T.x.den.length s2d1, .bool T.y.neg, .slice s2p2 T.y.num.length s2d2, .slice s2p3 T.y.den.length s2d3]) (by simp [results, Try.results80, go_sem, Yr0, Yr1, Yr2, Yr3, Yr4, Yr5, Lr]) rfl ⟨s2p0, s2d0, s2p1, s2d1, s2p2, s2d2, s2p3, s2d3, rfl, ptF_end (by first | omega | (simp; done) | (simp; omega)) (by first | omega | (simp; done) | (simp; omega)) O2.out B.out⟩

set_option maxRecDepth 100000 in
set_option maxHeartbeats 4000000 in
theorem specScalePoint_P (r : RA) (p : PT) (T : PT) (hT : scalePT r p = T) (ra0 : Option Addr) (rc0 : Nat) (ra1 : Option Addr) (rc1 : Nat) (pa0 : Option Addr) (pc0 : Nat) (pa1 : Option Addr) (pc1 : Nat) (pa2 : Option Addr) (pc2 : Nat) (pa3 : Option Addr) (pc3 : Nat) (w : World) (ri0 : IntsAt w ra0 rc0 r.num) (ri1 : IntsAt w ra1 rc1 r.den) (rl : LenRA r) (pi0 : IntsAt w pa0 pc0 p.x.num) (pi1 : IntsAt w pa1 pc1 p.x.den) (pi2 : IntsAt w pa2 pc2 p.y.num) (pi3 : IntsAt w pa3 pc3 p.y.den) (pl : LenPT p) : Calls Try.prog 68 #[.agg #[.bool r.neg, .slice ra0 r.num.length rc0, .slice ra1 r.den.length rc1], .agg #[.bool p.x.neg, .slice pa0 p.x.num.length pc0, .slice pa1 p.x.den.length pc1, .bool p.y.neg, .slice pa2 p.y.num.length pc2, .slice pa3 p.y.den.length pc3]] w (PtRetS w T) := by
  obtain ⟨R0, h0⟩ : ∃ R, mulRA r p.x = R := ⟨_, rfl⟩
  have o0 : RaOr R0 := by rw [← h0]; exact raOr_mul _ _ _ _ _ _
  have l0 := o0.len'
  have H0 := Lib.hid h0
  obtain ⟨R1, h1⟩ : ∃ R, mulRA r p.y = R := ⟨_, rfl⟩
  have o1 : RaOr R1 := by rw [← h1]; exact raOr_mul _ _ _ _ _ _
  have l1 := o1.len'
  have H1 := Lib.hid h1
  have H2 : Hid (validPT R0 R1 = T) := by unfold Hid; rw [← hT, ← h0, ← h1]; rfl
  clear hT h0 h1
  have rH0 := Lib.hid ri0
  have rH1 := Lib.hid ri1
  have pH0 := Lib.hid pi0
  have pH1 := Lib.hid pi1
  have pH2 := Lib.hid pi2
  have pH3 := Lib.hid pi3
  clear ri0 ri1 pi0 pi1 pi2 pi3
  have BR : Below (((w.alloc (.cells #[.bool r.neg, .slice ra0 r.num.length rc0, .slice ra1 r.den.length rc1] 26)).alloc (.cells #[.bool p.x.neg, .slice pa0 p.x.num.length pc0, .slice pa1 p.x.den.length pc1, .bool p.y.neg, .slice pa2 p.y.num.length pc2, .slice pa3 p.y.den.length pc3] 32)).alloc (.cells #[.bool false, .slice none 0 0, .slice none 0 0, .bool false, .slice none 0 0, .slice none 0 0] 32)).heap.size (((w.alloc (.cells #[.bool r.neg, .slice ra0 r.num.length rc0, .slice ra1 r.den.length rc1] 26)).alloc (.cells #[.bool p.x.neg, .slice pa0 p.x.num.length pc0, .slice pa1 p.x.den.length pc1, .bool p.y.neg, .slice pa2 p.y.num.length pc2, .slice pa3 p.y.den.length pc3] 32)).alloc (.cells #[.bool false, .slice none 0 0, .slice none 0 0, .bool false, .slice none 0 0, .slice none 0 0] 32)) (((w.alloc (.cells #[.bool r.neg, .slice ra0 r.num.length rc0, .slice ra1 r.den.length rc1] 26)).alloc (.cells #[.bool p.x.neg, .slice pa0 p.x.num.length pc0, .slice pa1 p.x.den.length pc1, .bool p.y.neg, .slice pa2 p.y.num.length pc2, .slice pa3 p.y.den.length pc3] 32)).alloc (.cells #[.bool false, .slice none 0 0, .slice none 0 0, .bool false, .slice none 0 0, .slice none 0 0] 32)) := Below.refl _ _
  have Rx := bx3_0 BR
  have Ry := bx3_1 BR
  have Rr := bx3_2 BR
  have B : Hid (Below w.heap.size w (((w.alloc (.cells #[.bool r.neg, .slice ra0 r.num.length rc0, .slice ra1 r.den.length rc1] 26)).alloc (.cells #[.bool p.x.neg, .slice pa0 p.x.num.length pc0, .slice pa1 p.x.den.length pc1, .bool p.y.neg, .slice pa2 p.y.num.length pc2, .slice pa3 p.y.den.length pc3] 32)).alloc (.cells #[.bool false, .slice none 0 0, .slice none 0 0, .bool false, .slice none 0 0, .slice none 0 0] 32))) := Lib.hid (ba3 _ _ _ _)
  have Yx0 := Rx.c0
  have Yx1 := Rx.c1
  have Yx2 := Rx.c2
  have Yy0 := Ry.c0
  have Yy1 := Ry.c1
  have Yy2 := Ry.c2
  have Yy3 := Ry.c3
  have Yy4 := Ry.c4
  have Yy5 := Ry.c5
  have Yr0 := Rr.c0
  have Yr1 := Rr.c1
  have Yr2 := Rr.c2
  have Yr3 := Rr.c3
  have Yr4 := Rr.c4
  have Yr5 := Rr.c5
  clear BR
  go_enter Try.func68, Try.ntmps68
  have tok27 : True := trivial
  have tok28 : True := trivial
  go_wp2_with fail
  go_region_held3 (fun w' => w'.cell? ⟨w.heap.size, 0, none⟩ = some (.bool r.neg) ∧ w'.cell? ⟨w.heap.size, 1, none⟩ = some (.slice ra0 r.num.length rc0) ∧ w'.cell? ⟨w.heap.size, 2, none⟩ = some (.slice ra1 r.den.length rc1) ∧ w'.cell? ⟨w.heap.size + 1, 0, none⟩ = some (.bool p.x.neg) ∧ w'.cell? ⟨w.heap.size + 1, 1, none⟩ = some (.slice pa0 p.x.num.length pc0) ∧ w'.cell? ⟨w.heap.size + 1, 2, none⟩ = some (.slice pa1 p.x.den.length pc1) ∧ w'.cell? ⟨w.heap.size + 1, 3, none⟩ = some (.bool p.y.neg) ∧ w'.cell? ⟨w.heap.size + 1, 4, none⟩ = some (.slice pa2 p.y.num.length pc2) ∧ w'.cell? ⟨w.heap.size + 1, 5, none⟩ = some (.slice pa3 p.y.den.length pc3))
    ((refine ⟨?_, ?_, ?_, ?_, ?_, ?_, ?_, ?_, ?_⟩ <;> (repeat first | with_reducible assumption | with_reducible refine cell_low ?_ (by first | (simp; done) | (simp; omega) | omega) | with_reducible refine cell_step ?_ b27 | with_reducible refine cell_step ?_ b28 | with_reducible refine cell_step ?_ b29 | with_reducible refine cell_dr ?_)))
    (first | (go_at_call 60; clear tok27; refine (specRatMul_R r p.x R0 H0.out ra0 rc0 ra1 rc1 pa0 pc0 pa1 pc1 _ (rH0.out.below (B.out.drew)) (rH1.out.below (B.out.drew)) rl (pH0.out.below (B.out.drew)) (pH1.out.below (B.out.drew)) pl.x).mono ?_; rintro e W27 ⟨s0p0, s0d0, s0p1, s0d1, rfl, hO0, b27⟩; have s27 := b27.size; (try simp at s27)) | (go_at_call 60; clear tok28; refine (specRatMul_R r p.y R1 H1.out ra0 rc0 ra1 rc1 pa2 pc2 pa3 pc3 _ (rH0.out.below (bstepD B.out b27)) (rH1.out.below (bstepD B.out b27)) rl (pH2.out.below (bstepD B.out b27)) (pH3.out.below (bstepD B.out b27)) pl.y).mono ?_; rintro e W28 ⟨s1p0, s1d0, s1p1, s1d1, rfl, hO1, b28⟩; have s28 := b28.size; (try simp at s28)) | (go_at_call 123; refine (l05Valid_P R0 R1 s0p0 s0d0 s0p1 s0d1 s1p0 s1d0 s1p1 s1d1 _ T H2.out o0 o1 (w.heap.size + 3) (FourF.of (hO0.below b28) hO1 (by first | omega | (simp; done) | (simp; omega)) (by first | omega | (simp; done) | (simp; omega)))).mono ?_; rintro e W29 ⟨s2p0, s2d0, s2p1, s2d1, s2p2, s2d2, s2p3, s2d3, rfl, hO2, b29⟩; have s29 := b29.size; (try simp at s29); have Rr := (box_step (box_step (box_step (box_drew Rr) b27) b28) b29); have Yr0 := Rr.cell 0 rfl; have Fr0 := Rr.frozen 0; have Yr1 := Rr.cell 1 rfl; have Fr1 := Rr.frozen 1; have Yr2 := Rr.cell 2 rfl; have Fr2 := Rr.frozen 2; have Yr3 := Rr.cell 3 rfl; have Fr3 := Rr.frozen 3; have Yr4 := Rr.cell 4 rfl; have Fr4 := Rr.frozen 4; have Yr5 := Rr.cell 5 rfl; have Fr5 := Rr.frozen 5; have Lr := Rr.lt))
  have sb27 := b27.size
  try simp at sb27
  have sb28 := b28.size
  have sb29 := b29.size
  have O0 := Lib.hid (((hO0.below b28).below b29))
  clear hO0
  have O1 := Lib.hid ((hO1.below b29))
  clear hO1
  have O2 := Lib.hid (hO2)
  clear hO2
  have B := Lib.hid (bstep (bstep (bstepD B.out b27) b28) b29)
  clear b27 b28 b29
  go_wp2
  refine bodyPost_ret (v := .agg #[.bool T.x.neg, .slice s2p0 T.x.num.length s2d0, .slice s2p1 T.x.den.length s2d1, .bool T.y.neg, .slice s2p2 T.y.num.length s2d2, .slice s2p3 T.y.den.length s2d3]) (by simp [results, Try.results68, go_sem, Yr0, Yr1, Yr2, Yr3, Yr4, Yr5, Lr]) rfl ⟨s2p0, s2d0, s2p1, s2d1, s2p2, s2d2, s2p3, s2d3, rfl, ptF_end (by first | omega | (simp; done) | (simp; omega)) (by first | omega | (simp; done) | (simp; omega)) O2.out B.out⟩

set_option maxRecDepth 100000 in
set_option maxHeartbeats 4000000 in
theorem specInner_P (p : PT) (q : PT) (T : RA) (hT : innerPT p q = T) (pa0 : Option Addr) (pc0 : Nat) (pa1 : Option Addr) (pc1 : Nat) (pa2 : Option Addr) (pc2 : Nat) (pa3 : Option Addr) (pc3 : Nat) (qa0 : Option Addr) (qc0 : Nat) (qa1 : Option Addr) (qc1 : Nat) (qa2 : Option Addr) (qc2 : Nat) (qa3 : Option Addr) (qc3 : Nat) (w : World) (pi0 : IntsAt w pa0 pc0 p.x.num) (pi1 : IntsAt w pa1 pc1 p.x.den) (pi2 : IntsAt w pa2 pc2 p.y.num) (pi3 : IntsAt w pa3 pc3 p.y.den) (pl : LenPT p) (qi0 : IntsAt w qa0 qc0 q.x.num) (qi1 : IntsAt w qa1 qc1 q.x.den) (qi2 : IntsAt w qa2 qc2 q.y.num) (qi3 : IntsAt w qa3 qc3 q.y.den) (ql : LenPT q) : Calls Try.prog 74 #[.agg #[.bool p.x.neg, .slice pa0 p.x.num.length pc0, .slice pa1 p.x.den.length pc1, .bool p.y.neg, .slice pa2 p.y.num.length pc2, .slice pa3 p.y.den.length pc3], .agg #[.bool q.x.neg, .slice qa0 q.x.num.length qc0, .slice qa1 q.x.den.length qc1, .bool q.y.neg, .slice qa2 q.y.num.length qc2, .slice qa3 q.y.den.length qc3]] w (RatRetS w T) := by
  obtain ⟨R0, h0⟩ : ∃ R, mulRA p.x q.x = R := ⟨_, rfl⟩
  have o0 : RaOr R0 := by rw [← h0]; exact raOr_mul _ _ _ _ _ _
  have l0 := o0.len'
  have H0 := Lib.hid h0
  obtain ⟨R1, h1⟩ : ∃ R, mulRA p.y q.y = R := ⟨_, rfl⟩
  have o1 : RaOr R1 := by rw [← h1]; exact raOr_mul _ _ _ _ _ _
  have l1 := o1.len'
  have H1 := Lib.hid h1
  have H2 : Hid (addRA R0 R1 = T) := by unfold Hid; rw [← hT, ← h0, ← h1]; rfl
  clear hT h0 h1
  have pH0 := Lib.hid pi0
  have pH1 := Lib.hid pi1
  have pH2 := Lib.hid pi2
  have pH3 := Lib.hid pi3
  have qH0 := Lib.hid qi0
  have qH1 := Lib.hid qi1
  have qH2 := Lib.hid qi2
  have qH3 := Lib.hid qi3
  clear pi0 pi1 pi2 pi3 qi0 qi1 qi2 qi3
  have BR : Below (((w.alloc (.cells #[.bool p.x.neg, .slice pa0 p.x.num.length pc0, .slice pa1 p.x.den.length pc1, .bool p.y.neg, .slice pa2 p.y.num.length pc2, .slice pa3 p.y.den.length pc3] 32)).alloc (.cells #[.bool q.x.neg, .slice qa0 q.x.num.length qc0, .slice qa1 q.x.den.length qc1, .bool q.y.neg, .slice qa2 q.y.num.length qc2, .slice qa3 q.y.den.length qc3] 32)).alloc (.cells #[.bool false, .slice none 0 0, .slice none 0 0] 26)).heap.size (((w.alloc (.cells #[.bool p.x.neg, .slice pa0 p.x.num.length pc0, .slice pa1 p.x.den.length pc1, .bool p.y.neg, .slice pa2 p.y.num.length pc2, .slice pa3 p.y.den.length pc3] 32)).alloc (.cells #[.bool q.x.neg, .slice qa0 q.x.num.length qc0, .slice qa1 q.x.den.length qc1, .bool q.y.neg, .slice qa2 q.y.num.length qc2, .slice qa3 q.y.den.length qc3] 32)).alloc (.cells #[.bool false, .slice none 0 0, .slice none 0 0] 26)) (((w.alloc (.cells #[.bool p.x.neg, .slice pa0 p.x.num.length pc0, .slice pa1 p.x.den.length pc1, .bool p.y.neg, .slice pa2 p.y.num.length pc2, .slice pa3 p.y.den.length pc3] 32)).alloc (.cells #[.bool q.x.neg, .slice qa0 q.x.num.length qc0, .slice qa1 q.x.den.length qc1, .bool q.y.neg, .slice qa2 q.y.num.length qc2, .slice qa3 q.y.den.length qc3] 32)).alloc (.cells #[.bool false, .slice none 0 0, .slice none 0 0] 26)) := Below.refl _ _
  have Rx := bx3_0 BR
  have Ry := bx3_1 BR
  have Rr := bx3_2 BR
  have B : Hid (Below w.heap.size w (((w.alloc (.cells #[.bool p.x.neg, .slice pa0 p.x.num.length pc0, .slice pa1 p.x.den.length pc1, .bool p.y.neg, .slice pa2 p.y.num.length pc2, .slice pa3 p.y.den.length pc3] 32)).alloc (.cells #[.bool q.x.neg, .slice qa0 q.x.num.length qc0, .slice qa1 q.x.den.length qc1, .bool q.y.neg, .slice qa2 q.y.num.length qc2, .slice qa3 q.y.den.length qc3] 32)).alloc (.cells #[.bool false, .slice none 0 0, .slice none 0 0] 26))) := Lib.hid (ba3 _ _ _ _)
  have Yx0 := Rx.c0
  have Yx1 := Rx.c1
  have Yx2 := Rx.c2
  have Yx3 := Rx.c3
  have Yx4 := Rx.c4
  have Yx5 := Rx.c5
  have Yy0 := Ry.c0
  have Yy1 := Ry.c1
  have Yy2 := Ry.c2
  have Yy3 := Ry.c3
  have Yy4 := Ry.c4
  have Yy5 := Ry.c5
  have Yr0 := Rr.c0
  have Yr1 := Rr.c1
  have Yr2 := Rr.c2
  clear BR
  go_enter Try.func74, Try.ntmps74
  have tok30 : True := trivial
  have tok31 : True := trivial
  go_wp2_with fail
  go_region_held3 (fun w' => w'.cell? ⟨w.heap.size, 0, none⟩ = some (.bool p.x.neg) ∧ w'.cell? ⟨w.heap.size, 1, none⟩ = some (.slice pa0 p.x.num.length pc0) ∧ w'.cell? ⟨w.heap.size, 2, none⟩ = some (.slice pa1 p.x.den.length pc1) ∧ w'.cell? ⟨w.heap.size, 3, none⟩ = some (.bool p.y.neg) ∧ w'.cell? ⟨w.heap.size, 4, none⟩ = some (.slice pa2 p.y.num.length pc2) ∧ w'.cell? ⟨w.heap.size, 5, none⟩ = some (.slice pa3 p.y.den.length pc3) ∧ w'.cell? ⟨w.heap.size + 1, 0, none⟩ = some (.bool q.x.neg) ∧ w'.cell? ⟨w.heap.size + 1, 1, none⟩ = some (.slice qa0 q.x.num.length qc0) ∧ w'.cell? ⟨w.heap.size + 1, 2, none⟩ = some (.slice qa1 q.x.den.length qc1) ∧ w'.cell? ⟨w.heap.size + 1, 3, none⟩ = some (.bool q.y.neg) ∧ w'.cell? ⟨w.heap.size + 1, 4, none⟩ = some (.slice qa2 q.y.num.length qc2) ∧ w'.cell? ⟨w.heap.size + 1, 5, none⟩ = some (.slice qa3 q.y.den.length qc3))
    ((first | exact ⟨Yx0, Yx1, Yx2, Yx3, Yx4, Yx5, Yy0, Yy1, Yy2, Yy3, Yy4, Yy5⟩ | exact ⟨cell_stepD Yx0 b30, cell_stepD Yx1 b30, cell_stepD Yx2 b30, cell_stepD Yx3 b30, cell_stepD Yx4 b30, cell_stepD Yx5 b30, cell_stepD Yy0 b30, cell_stepD Yy1 b30, cell_stepD Yy2 b30, cell_stepD Yy3 b30, cell_stepD Yy4 b30, cell_stepD Yy5 b30⟩ | exact ⟨cell_step (cell_stepD Yx0 b30) b31, cell_step (cell_stepD Yx1 b30) b31, cell_step (cell_stepD Yx2 b30) b31, cell_step (cell_stepD Yx3 b30) b31, cell_step (cell_stepD Yx4 b30) b31, cell_step (cell_stepD Yx5 b30) b31, cell_step (cell_stepD Yy0 b30) b31, cell_step (cell_stepD Yy1 b30) b31, cell_step (cell_stepD Yy2 b30) b31, cell_step (cell_stepD Yy3 b30) b31, cell_step (cell_stepD Yy4 b30) b31, cell_step (cell_stepD Yy5 b30) b31⟩ | exact ⟨cell_step (cell_step (cell_stepD Yx0 b30) b31) b32, cell_step (cell_step (cell_stepD Yx1 b30) b31) b32, cell_step (cell_step (cell_stepD Yx2 b30) b31) b32, cell_step (cell_step (cell_stepD Yx3 b30) b31) b32, cell_step (cell_step (cell_stepD Yx4 b30) b31) b32, cell_step (cell_step (cell_stepD Yx5 b30) b31) b32, cell_step (cell_step (cell_stepD Yy0 b30) b31) b32, cell_step (cell_step (cell_stepD Yy1 b30) b31) b32, cell_step (cell_step (cell_stepD Yy2 b30) b31) b32, cell_step (cell_step (cell_stepD Yy3 b30) b31) b32, cell_step (cell_step (cell_stepD Yy4 b30) b31) b32, cell_step (cell_step (cell_stepD Yy5 b30) b31) b32⟩ | exact ⟨cell_low (cell_low (cell_low (cell_step (cell_step (cell_stepD Yx0 b30) b31) b32) (by first | (simp; done) | (simp; omega) | omega)) (by first | (simp; done) | (simp; omega) | omega)) (by first | (simp; done) | (simp; omega) | omega), cell_low (cell_low (cell_low (cell_step (cell_step (cell_stepD Yx1 b30) b31) b32) (by first | (simp; done) | (simp; omega) | omega)) (by first | (simp; done) | (simp; omega) | omega)) (by first | (simp; done) | (simp; omega) | omega), cell_low (cell_low (cell_low (cell_step (cell_step (cell_stepD Yx2 b30) b31) b32) (by first | (simp; done) | (simp; omega) | omega)) (by first | (simp; done) | (simp; omega) | omega)) (by first | (simp; done) | (simp; omega) | omega), cell_low (cell_low (cell_low (cell_step (cell_step (cell_stepD Yx3 b30) b31) b32) (by first | (simp; done) | (simp; omega) | omega)) (by first | (simp; done) | (simp; omega) | omega)) (by first | (simp; done) | (simp; omega) | omega), cell_low (cell_low (cell_low (cell_step (cell_step (cell_stepD Yx4 b30) b31) b32) (by first | (simp; done) | (simp; omega) | omega)) (by first | (simp; done) | (simp; omega) | omega)) (by first | (simp; done) | (simp; omega) | omega), cell_low (cell_low (cell_low (cell_step (cell_step (cell_stepD Yx5 b30) b31) b32) (by first | (simp; done) | (simp; omega) | omega)) (by first | (simp; done) | (simp; omega) | omega)) (by first | (simp; done) | (simp; omega) | omega), cell_low (cell_low (cell_low (cell_step (cell_step (cell_stepD Yy0 b30) b31) b32) (by first | (simp; done) | (simp; omega) | omega)) (by first | (simp; done) | (simp; omega) | omega)) (by first | (simp; done) | (simp; omega) | omega), cell_low (cell_low (cell_low (cell_step (cell_step (cell_stepD Yy1 b30) b31) b32) (by first | (simp; done) | (simp; omega) | omega)) (by first | (simp; done) | (simp; omega) | omega)) (by first | (simp; done) | (simp; omega) | omega), cell_low (cell_low (cell_low (cell_step (cell_step (cell_stepD Yy2 b30) b31) b32) (by first | (simp; done) | (simp; omega) | omega)) (by first | (simp; done) | (simp; omega) | omega)) (by first | (simp; done) | (simp; omega) | omega), cell_low (cell_low (cell_low (cell_step (cell_step (cell_stepD Yy3 b30) b31) b32) (by first | (simp; done) | (simp; omega) | omega)) (by first | (simp; done) | (simp; omega) | omega)) (by first | (simp; done) | (simp; omega) | omega), cell_low (cell_low (cell_low (cell_step (cell_step (cell_stepD Yy4 b30) b31) b32) (by first | (simp; done) | (simp; omega) | omega)) (by first | (simp; done) | (simp; omega) | omega)) (by first | (simp; done) | (simp; omega) | omega), cell_low (cell_low (cell_low (cell_step (cell_step (cell_stepD Yy5 b30) b31) b32) (by first | (simp; done) | (simp; omega) | omega)) (by first | (simp; done) | (simp; omega) | omega)) (by first | (simp; done) | (simp; omega) | omega)⟩))
    (first | (go_at_call 60; clear tok30; refine (specRatMul_R p.x q.x R0 H0.out pa0 pc0 pa1 pc1 qa0 qc0 qa1 qc1 _ (pH0.out.below (B.out.drew)) (pH1.out.below (B.out.drew)) pl.x (qH0.out.below (B.out.drew)) (qH1.out.below (B.out.drew)) ql.x).mono ?_; rintro e W30 ⟨s0p0, s0d0, s0p1, s0d1, rfl, hO0, b30⟩; have s30 := b30.size; (try simp at s30)) | (go_at_call 60; clear tok31; refine (specRatMul_R p.y q.y R1 H1.out pa2 pc2 pa3 pc3 qa2 qc2 qa3 qc3 _ (pH2.out.below (bstepD B.out b30)) (pH3.out.below (bstepD B.out b30)) pl.y (qH2.out.below (bstepD B.out b30)) (qH3.out.below (bstepD B.out b30)) ql.y).mono ?_; rintro e W31 ⟨s1p0, s1d0, s1p1, s1d1, rfl, hO1, b31⟩; have s31 := b31.size; (try simp at s31)) | (go_at_call 70; refine (specRatAdd_R R0 R1 T H2.out s0p0 s0d0 s0p1 s0d1 s1p0 s1d0 s1p1 s1d1 _ (hO0.below b31).i1 (hO0.below b31).i2 l0 hO1.i1 hO1.i2 l1).mono ?_; rintro e W32 ⟨s2p0, s2d0, s2p1, s2d1, rfl, hO2, b32⟩; have s32 := b32.size; (try simp at s32); have Rr := (box_step (box_step (box_step (box_drew Rr) b30) b31) b32); have Yr0 := Rr.cell 0 rfl; have Fr0 := Rr.frozen 0; have Yr1 := Rr.cell 1 rfl; have Fr1 := Rr.frozen 1; have Yr2 := Rr.cell 2 rfl; have Fr2 := Rr.frozen 2; have Lr := Rr.lt))
  have sb30 := b30.size
  try simp at sb30
  have sb31 := b31.size
  have sb32 := b32.size
  have O0 := Lib.hid (((hO0.below b31).below b32))
  clear hO0
  have O1 := Lib.hid ((hO1.below b32))
  clear hO1
  have O2 := Lib.hid (hO2)
  clear hO2
  have B := Lib.hid (bstep (bstep (bstepD B.out b30) b31) b32)
  clear b30 b31 b32
  go_wp2
  refine bodyPost_ret (v := .agg #[.bool T.neg, .slice s2p0 T.num.length s2d0, .slice s2p1 T.den.length s2d1]) (by simp [results, Try.results74, go_sem, Yr0, Yr1, Yr2, Lr]) rfl ⟨s2p0, s2d0, s2p1, s2d1, rfl, ratF_end (by first | omega | (simp; done) | (simp; omega)) (by first | omega | (simp; done) | (simp; omega)) O2.out B.out _ _ _⟩

set_option maxRecDepth 100000 in
set_option maxHeartbeats 4000000 in
theorem specCross_P (p : PT) (q : PT) (T : RA) (hT : crossPT p q = T) (pa0 : Option Addr) (pc0 : Nat) (pa1 : Option Addr) (pc1 : Nat) (pa2 : Option Addr) (pc2 : Nat) (pa3 : Option Addr) (pc3 : Nat) (qa0 : Option Addr) (qc0 : Nat) (qa1 : Option Addr) (qc1 : Nat) (qa2 : Option Addr) (qc2 : Nat) (qa3 : Option Addr) (qc3 : Nat) (w : World) (pi0 : IntsAt w pa0 pc0 p.x.num) (pi1 : IntsAt w pa1 pc1 p.x.den) (pi2 : IntsAt w pa2 pc2 p.y.num) (pi3 : IntsAt w pa3 pc3 p.y.den) (pl : LenPT p) (qi0 : IntsAt w qa0 qc0 q.x.num) (qi1 : IntsAt w qa1 qc1 q.x.den) (qi2 : IntsAt w qa2 qc2 q.y.num) (qi3 : IntsAt w qa3 qc3 q.y.den) (ql : LenPT q) : Calls Try.prog 76 #[.agg #[.bool p.x.neg, .slice pa0 p.x.num.length pc0, .slice pa1 p.x.den.length pc1, .bool p.y.neg, .slice pa2 p.y.num.length pc2, .slice pa3 p.y.den.length pc3], .agg #[.bool q.x.neg, .slice qa0 q.x.num.length qc0, .slice qa1 q.x.den.length qc1, .bool q.y.neg, .slice qa2 q.y.num.length qc2, .slice qa3 q.y.den.length qc3]] w (RatRetS w T) := by
  obtain ⟨R0, h0⟩ : ∃ R, mulRA p.x q.y = R := ⟨_, rfl⟩
  have o0 : RaOr R0 := by rw [← h0]; exact raOr_mul _ _ _ _ _ _
  have l0 := o0.len'
  have H0 := Lib.hid h0
  obtain ⟨R1, h1⟩ : ∃ R, mulRA p.y q.x = R := ⟨_, rfl⟩
  have o1 : RaOr R1 := by rw [← h1]; exact raOr_mul _ _ _ _ _ _
  have l1 := o1.len'
  have H1 := Lib.hid h1
  have H2 : Hid (subRA R0 R1 = T) := by unfold Hid; rw [← hT, ← h0, ← h1]; rfl
  clear hT h0 h1
  have pH0 := Lib.hid pi0
  have pH1 := Lib.hid pi1
  have pH2 := Lib.hid pi2
  have pH3 := Lib.hid pi3
  have qH0 := Lib.hid qi0
  have qH1 := Lib.hid qi1
  have qH2 := Lib.hid qi2
  have qH3 := Lib.hid qi3
  clear pi0 pi1 pi2 pi3 qi0 qi1 qi2 qi3
  have BR : Below (((w.alloc (.cells #[.bool p.x.neg, .slice pa0 p.x.num.length pc0, .slice pa1 p.x.den.length pc1, .bool p.y.neg, .slice pa2 p.y.num.length pc2, .slice pa3 p.y.den.length pc3] 32)).alloc (.cells #[.bool q.x.neg, .slice qa0 q.x.num.length qc0, .slice qa1 q.x.den.length qc1, .bool q.y.neg, .slice qa2 q.y.num.length qc2, .slice qa3 q.y.den.length qc3] 32)).alloc (.cells #[.bool false, .slice none 0 0, .slice none 0 0] 26)).heap.size (((w.alloc (.cells #[.bool p.x.neg, .slice pa0 p.x.num.length pc0, .slice pa1 p.x.den.length pc1, .bool p.y.neg, .slice pa2 p.y.num.length pc2, .slice pa3 p.y.den.length pc3] 32)).alloc (.cells #[.bool q.x.neg, .slice qa0 q.x.num.length qc0, .slice qa1 q.x.den.length qc1, .bool q.y.neg, .slice qa2 q.y.num.length qc2, .slice qa3 q.y.den.length qc3] 32)).alloc (.cells #[.bool false, .slice none 0 0, .slice none 0 0] 26)) (((w.alloc (.cells #[.bool p.x.neg, .slice pa0 p.x.num.length pc0, .slice pa1 p.x.den.length pc1, .bool p.y.neg, .slice pa2 p.y.num.length pc2, .slice pa3 p.y.den.length pc3] 32)).alloc (.cells #[.bool q.x.neg, .slice qa0 q.x.num.length qc0, .slice qa1 q.x.den.length qc1, .bool q.y.neg, .slice qa2 q.y.num.length qc2, .slice qa3 q.y.den.length qc3] 32)).alloc (.cells #[.bool false, .slice none 0 0, .slice none 0 0] 26)) := Below.refl _ _
  have Rx := bx3_0 BR
  have Ry := bx3_1 BR
  have Rr := bx3_2 BR
  have B : Hid (Below w.heap.size w (((w.alloc (.cells #[.bool p.x.neg, .slice pa0 p.x.num.length pc0, .slice pa1 p.x.den.length pc1, .bool p.y.neg, .slice pa2 p.y.num.length pc2, .slice pa3 p.y.den.length pc3] 32)).alloc (.cells #[.bool q.x.neg, .slice qa0 q.x.num.length qc0, .slice qa1 q.x.den.length qc1, .bool q.y.neg, .slice qa2 q.y.num.length qc2, .slice qa3 q.y.den.length qc3] 32)).alloc (.cells #[.bool false, .slice none 0 0, .slice none 0 0] 26))) := Lib.hid (ba3 _ _ _ _)
  have Yx0 := Rx.c0
  have Yx1 := Rx.c1
  have Yx2 := Rx.c2
  have Yx3 := Rx.c3
  have Yx4 := Rx.c4
  have Yx5 := Rx.c5
  have Yy0 := Ry.c0
  have Yy1 := Ry.c1
  have Yy2 := Ry.c2
  have Yy3 := Ry.c3
  have Yy4 := Ry.c4
  have Yy5 := Ry.c5
  have Yr0 := Rr.c0
  have Yr1 := Rr.c1
  have Yr2 := Rr.c2
  clear BR
  go_enter Try.func76, Try.ntmps76
  have tok33 : True := trivial
  have tok34 : True := trivial
  go_wp2_with fail
  go_region_held3 (fun w' => w'.cell? ⟨w.heap.size, 0, none⟩ = some (.bool p.x.neg) ∧ w'.cell? ⟨w.heap.size, 1, none⟩ = some (.slice pa0 p.x.num.length pc0) ∧ w'.cell? ⟨w.heap.size, 2, none⟩ = some (.slice pa1 p.x.den.length pc1) ∧ w'.cell? ⟨w.heap.size, 3, none⟩ = some (.bool p.y.neg) ∧ w'.cell? ⟨w.heap.size, 4, none⟩ = some (.slice pa2 p.y.num.length pc2) ∧ w'.cell? ⟨w.heap.size, 5, none⟩ = some (.slice pa3 p.y.den.length pc3) ∧ w'.cell? ⟨w.heap.size + 1, 0, none⟩ = some (.bool q.x.neg) ∧ w'.cell? ⟨w.heap.size + 1, 1, none⟩ = some (.slice qa0 q.x.num.length qc0) ∧ w'.cell? ⟨w.heap.size + 1, 2, none⟩ = some (.slice qa1 q.x.den.length qc1) ∧ w'.cell? ⟨w.heap.size + 1, 3, none⟩ = some (.bool q.y.neg) ∧ w'.cell? ⟨w.heap.size + 1, 4, none⟩ = some (.slice qa2 q.y.num.length qc2) ∧ w'.cell? ⟨w.heap.size + 1, 5, none⟩ = some (.slice qa3 q.y.den.length qc3))
    ((first | exact ⟨Yx0, Yx1, Yx2, Yx3, Yx4, Yx5, Yy0, Yy1, Yy2, Yy3, Yy4, Yy5⟩ | exact ⟨cell_stepD Yx0 b33, cell_stepD Yx1 b33, cell_stepD Yx2 b33, cell_stepD Yx3 b33, cell_stepD Yx4 b33, cell_stepD Yx5 b33, cell_stepD Yy0 b33, cell_stepD Yy1 b33, cell_stepD Yy2 b33, cell_stepD Yy3 b33, cell_stepD Yy4 b33, cell_stepD Yy5 b33⟩ | exact ⟨cell_step (cell_stepD Yx0 b33) b34, cell_step (cell_stepD Yx1 b33) b34, cell_step (cell_stepD Yx2 b33) b34, cell_step (cell_stepD Yx3 b33) b34, cell_step (cell_stepD Yx4 b33) b34, cell_step (cell_stepD Yx5 b33) b34, cell_step (cell_stepD Yy0 b33) b34, cell_step (cell_stepD Yy1 b33) b34, cell_step (cell_stepD Yy2 b33) b34, cell_step (cell_stepD Yy3 b33) b34, cell_step (cell_stepD Yy4 b33) b34, cell_step (cell_stepD Yy5 b33) b34⟩ | exact ⟨cell_step (cell_step (cell_stepD Yx0 b33) b34) b35, cell_step (cell_step (cell_stepD Yx1 b33) b34) b35, cell_step (cell_step (cell_stepD Yx2 b33) b34) b35, cell_step (cell_step (cell_stepD Yx3 b33) b34) b35, cell_step (cell_step (cell_stepD Yx4 b33) b34) b35, cell_step (cell_step (cell_stepD Yx5 b33) b34) b35, cell_step (cell_step (cell_stepD Yy0 b33) b34) b35, cell_step (cell_step (cell_stepD Yy1 b33) b34) b35, cell_step (cell_step (cell_stepD Yy2 b33) b34) b35, cell_step (cell_step (cell_stepD Yy3 b33) b34) b35, cell_step (cell_step (cell_stepD Yy4 b33) b34) b35, cell_step (cell_step (cell_stepD Yy5 b33) b34) b35⟩ | exact ⟨cell_low (cell_low (cell_low (cell_step (cell_step (cell_stepD Yx0 b33) b34) b35) (by first | (simp; done) | (simp; omega) | omega)) (by first | (simp; done) | (simp; omega) | omega)) (by first | (simp; done) | (simp; omega) | omega), cell_low (cell_low (cell_low (cell_step (cell_step (cell_stepD Yx1 b33) b34) b35) (by first | (simp; done) | (simp; omega) | omega)) (by first | (simp; done) | (simp; omega) | omega)) (by first | (simp; done) | (simp; omega) | omega), cell_low (cell_low (cell_low (cell_step (cell_step (cell_stepD Yx2 b33) b34) b35) (by first | (simp; done) | (simp; omega) | omega)) (by first | (simp; done) | (simp; omega) | omega)) (by first | (simp; done) | (simp; omega) | omega), cell_low (cell_low (cell_low (cell_step (cell_step (cell_stepD Yx3 b33) b34) b35) (by first | (simp; done) | (simp; omega) | omega)) (by first | (simp; done) | (simp; omega) | omega)) (by first | (simp; done) | (simp; omega) | omega), cell_low (cell_low (cell_low (cell_step (cell_step (cell_stepD Yx4 b33) b34) b35) (by first | (simp; done) | (simp; omega) | omega)) (by first | (simp; done) | (simp; omega) | omega)) (by first | (simp; done) | (simp; omega) | omega), cell_low (cell_low (cell_low (cell_step (cell_step (cell_stepD Yx5 b33) b34) b35) (by first | (simp; done) | (simp; omega) | omega)) (by first | (simp; done) | (simp; omega) | omega)) (by first | (simp; done) | (simp; omega) | omega), cell_low (cell_low (cell_low (cell_step (cell_step (cell_stepD Yy0 b33) b34) b35) (by first | (simp; done) | (simp; omega) | omega)) (by first | (simp; done) | (simp; omega) | omega)) (by first | (simp; done) | (simp; omega) | omega), cell_low (cell_low (cell_low (cell_step (cell_step (cell_stepD Yy1 b33) b34) b35) (by first | (simp; done) | (simp; omega) | omega)) (by first | (simp; done) | (simp; omega) | omega)) (by first | (simp; done) | (simp; omega) | omega), cell_low (cell_low (cell_low (cell_step (cell_step (cell_stepD Yy2 b33) b34) b35) (by first | (simp; done) | (simp; omega) | omega)) (by first | (simp; done) | (simp; omega) | omega)) (by first | (simp; done) | (simp; omega) | omega), cell_low (cell_low (cell_low (cell_step (cell_step (cell_stepD Yy3 b33) b34) b35) (by first | (simp; done) | (simp; omega) | omega)) (by first | (simp; done) | (simp; omega) | omega)) (by first | (simp; done) | (simp; omega) | omega), cell_low (cell_low (cell_low (cell_step (cell_step (cell_stepD Yy4 b33) b34) b35) (by first | (simp; done) | (simp; omega) | omega)) (by first | (simp; done) | (simp; omega) | omega)) (by first | (simp; done) | (simp; omega) | omega), cell_low (cell_low (cell_low (cell_step (cell_step (cell_stepD Yy5 b33) b34) b35) (by first | (simp; done) | (simp; omega) | omega)) (by first | (simp; done) | (simp; omega) | omega)) (by first | (simp; done) | (simp; omega) | omega)⟩))
    (first | (go_at_call 60; clear tok33; refine (specRatMul_R p.x q.y R0 H0.out pa0 pc0 pa1 pc1 qa2 qc2 qa3 qc3 _ (pH0.out.below (B.out.drew)) (pH1.out.below (B.out.drew)) pl.x (qH2.out.below (B.out.drew)) (qH3.out.below (B.out.drew)) ql.y).mono ?_; rintro e W33 ⟨s0p0, s0d0, s0p1, s0d1, rfl, hO0, b33⟩; have s33 := b33.size; (try simp at s33)) | (go_at_call 60; clear tok34; refine (specRatMul_R p.y q.x R1 H1.out pa2 pc2 pa3 pc3 qa0 qc0 qa1 qc1 _ (pH2.out.below (bstepD B.out b33)) (pH3.out.below (bstepD B.out b33)) pl.y (qH0.out.below (bstepD B.out b33)) (qH1.out.below (bstepD B.out b33)) ql.x).mono ?_; rintro e W34 ⟨s1p0, s1d0, s1p1, s1d1, rfl, hO1, b34⟩; have s34 := b34.size; (try simp at s34)) | (go_at_call 72; refine (specRatSub_R R0 R1 T H2.out s0p0 s0d0 s0p1 s0d1 s1p0 s1d0 s1p1 s1d1 _ (hO0.below b34).i1 (hO0.below b34).i2 l0 hO1.i1 hO1.i2 l1).mono ?_; rintro e W35 ⟨s2p0, s2d0, s2p1, s2d1, rfl, hO2, b35⟩; have s35 := b35.size; (try simp at s35); have Rr := (box_step (box_step (box_step (box_drew Rr) b33) b34) b35); have Yr0 := Rr.cell 0 rfl; have Fr0 := Rr.frozen 0; have Yr1 := Rr.cell 1 rfl; have Fr1 := Rr.frozen 1; have Yr2 := Rr.cell 2 rfl; have Fr2 := Rr.frozen 2; have Lr := Rr.lt))
  have sb33 := b33.size
  try simp at sb33
  have sb34 := b34.size
  have sb35 := b35.size
  have O0 := Lib.hid (((hO0.below b34).below b35))
  clear hO0
  have O1 := Lib.hid ((hO1.below b35))
  clear hO1
  have O2 := Lib.hid (hO2)
  clear hO2
  have B := Lib.hid (bstep (bstep (bstepD B.out b33) b34) b35)
  clear b33 b34 b35
  go_wp2
  refine bodyPost_ret (v := .agg #[.bool T.neg, .slice s2p0 T.num.length s2d0, .slice s2p1 T.den.length s2d1]) (by simp [results, Try.results76, go_sem, Yr0, Yr1, Yr2, Lr]) rfl ⟨s2p0, s2d0, s2p1, s2d1, rfl, ratF_end (by first | omega | (simp; done) | (simp; omega)) (by first | omega | (simp; done) | (simp; omega)) O2.out B.out _ _ _⟩

set_option maxRecDepth 100000 in
set_option maxHeartbeats 4000000 in
theorem specDoubleArea_P (p : PT) (q : PT) (t : PT) (T : RA) (hT : areaPT p q t = T) (pa0 : Option Addr) (pc0 : Nat) (pa1 : Option Addr) (pc1 : Nat) (pa2 : Option Addr) (pc2 : Nat) (pa3 : Option Addr) (pc3 : Nat) (qa0 : Option Addr) (qc0 : Nat) (qa1 : Option Addr) (qc1 : Nat) (qa2 : Option Addr) (qc2 : Nat) (qa3 : Option Addr) (qc3 : Nat) (ta0 : Option Addr) (tc0 : Nat) (ta1 : Option Addr) (tc1 : Nat) (ta2 : Option Addr) (tc2 : Nat) (ta3 : Option Addr) (tc3 : Nat) (w : World) (pi0 : IntsAt w pa0 pc0 p.x.num) (pi1 : IntsAt w pa1 pc1 p.x.den) (pi2 : IntsAt w pa2 pc2 p.y.num) (pi3 : IntsAt w pa3 pc3 p.y.den) (pl : LenPT p) (qi0 : IntsAt w qa0 qc0 q.x.num) (qi1 : IntsAt w qa1 qc1 q.x.den) (qi2 : IntsAt w qa2 qc2 q.y.num) (qi3 : IntsAt w qa3 qc3 q.y.den) (ql : LenPT q) (ti0 : IntsAt w ta0 tc0 t.x.num) (ti1 : IntsAt w ta1 tc1 t.x.den) (ti2 : IntsAt w ta2 tc2 t.y.num) (ti3 : IntsAt w ta3 tc3 t.y.den) (tl : LenPT t) : Calls Try.prog 82 #[.agg #[.bool p.x.neg, .slice pa0 p.x.num.length pc0, .slice pa1 p.x.den.length pc1, .bool p.y.neg, .slice pa2 p.y.num.length pc2, .slice pa3 p.y.den.length pc3], .agg #[.bool q.x.neg, .slice qa0 q.x.num.length qc0, .slice qa1 q.x.den.length qc1, .bool q.y.neg, .slice qa2 q.y.num.length qc2, .slice qa3 q.y.den.length qc3], .agg #[.bool t.x.neg, .slice ta0 t.x.num.length tc0, .slice ta1 t.x.den.length tc1, .bool t.y.neg, .slice ta2 t.y.num.length tc2, .slice ta3 t.y.den.length tc3]] w (RatRetS w T) := by
  obtain ⟨R0, h0⟩ : ∃ R, subPT q p = R := ⟨_, rfl⟩
  have o0 : PtOr R0 := by rw [← h0]; exact ptOr_sub _ _
  have l0 := o0.len'
  have H0 := Lib.hid h0
  obtain ⟨R1, h1⟩ : ∃ R, subPT t p = R := ⟨_, rfl⟩
  have o1 : PtOr R1 := by rw [← h1]; exact ptOr_sub _ _
  have l1 := o1.len'
  have H1 := Lib.hid h1
  have H2 : Hid (crossPT R0 R1 = T) := by unfold Hid; rw [← hT, ← h0, ← h1]; rfl
  clear hT h0 h1
  have pH0 := Lib.hid pi0
  have pH1 := Lib.hid pi1
  have pH2 := Lib.hid pi2
  have pH3 := Lib.hid pi3
  have qH0 := Lib.hid qi0
  have qH1 := Lib.hid qi1
  have qH2 := Lib.hid qi2
  have qH3 := Lib.hid qi3
  have tH0 := Lib.hid ti0
  have tH1 := Lib.hid ti1
  have tH2 := Lib.hid ti2
  have tH3 := Lib.hid ti3
  clear pi0 pi1 pi2 pi3 qi0 qi1 qi2 qi3 ti0 ti1 ti2 ti3
  have BR : Below ((((w.alloc (.cells #[.bool p.x.neg, .slice pa0 p.x.num.length pc0, .slice pa1 p.x.den.length pc1, .bool p.y.neg, .slice pa2 p.y.num.length pc2, .slice pa3 p.y.den.length pc3] 32)).alloc (.cells #[.bool q.x.neg, .slice qa0 q.x.num.length qc0, .slice qa1 q.x.den.length qc1, .bool q.y.neg, .slice qa2 q.y.num.length qc2, .slice qa3 q.y.den.length qc3] 32)).alloc (.cells #[.bool t.x.neg, .slice ta0 t.x.num.length tc0, .slice ta1 t.x.den.length tc1, .bool t.y.neg, .slice ta2 t.y.num.length tc2, .slice ta3 t.y.den.length tc3] 32)).alloc (.cells #[.bool false, .slice none 0 0, .slice none 0 0] 26)).heap.size ((((w.alloc (.cells #[.bool p.x.neg, .slice pa0 p.x.num.length pc0, .slice pa1 p.x.den.length pc1, .bool p.y.neg, .slice pa2 p.y.num.length pc2, .slice pa3 p.y.den.length pc3] 32)).alloc (.cells #[.bool q.x.neg, .slice qa0 q.x.num.length qc0, .slice qa1 q.x.den.length qc1, .bool q.y.neg, .slice qa2 q.y.num.length qc2, .slice qa3 q.y.den.length qc3] 32)).alloc (.cells #[.bool t.x.neg, .slice ta0 t.x.num.length tc0, .slice ta1 t.x.den.length tc1, .bool t.y.neg, .slice ta2 t.y.num.length tc2, .slice ta3 t.y.den.length tc3] 32)).alloc (.cells #[.bool false, .slice none 0 0, .slice none 0 0] 26)) ((((w.alloc (.cells #[.bool p.x.neg, .slice pa0 p.x.num.length pc0, .slice pa1 p.x.den.length pc1, .bool p.y.neg, .slice pa2 p.y.num.length pc2, .slice pa3 p.y.den.length pc3] 32)).alloc (.cells #[.bool q.x.neg, .slice qa0 q.x.num.length qc0, .slice qa1 q.x.den.length qc1, .bool q.y.neg, .slice qa2 q.y.num.length qc2, .slice qa3 q.y.den.length qc3] 32)).alloc (.cells #[.bool t.x.neg, .slice ta0 t.x.num.length tc0, .slice ta1 t.x.den.length tc1, .bool t.y.neg, .slice ta2 t.y.num.length tc2, .slice ta3 t.y.den.length tc3] 32)).alloc (.cells #[.bool false, .slice none 0 0, .slice none 0 0] 26)) := Below.refl _ _
  have Rx := bx4_0 BR
  have Ry := bx4_1 BR
  have Rz := bx4_2 BR
  have Rr := bx4_3 BR
  have B : Hid (Below w.heap.size w ((((w.alloc (.cells #[.bool p.x.neg, .slice pa0 p.x.num.length pc0, .slice pa1 p.x.den.length pc1, .bool p.y.neg, .slice pa2 p.y.num.length pc2, .slice pa3 p.y.den.length pc3] 32)).alloc (.cells #[.bool q.x.neg, .slice qa0 q.x.num.length qc0, .slice qa1 q.x.den.length qc1, .bool q.y.neg, .slice qa2 q.y.num.length qc2, .slice qa3 q.y.den.length qc3] 32)).alloc (.cells #[.bool t.x.neg, .slice ta0 t.x.num.length tc0, .slice ta1 t.x.den.length tc1, .bool t.y.neg, .slice ta2 t.y.num.length tc2, .slice ta3 t.y.den.length tc3] 32)).alloc (.cells #[.bool false, .slice none 0 0, .slice none 0 0] 26))) := Lib.hid (ba4 _ _ _ _ _)
  have Yx0 := Rx.c0
  have Yx1 := Rx.c1
  have Yx2 := Rx.c2
  have Yx3 := Rx.c3
  have Yx4 := Rx.c4
  have Yx5 := Rx.c5
  have Yy0 := Ry.c0
  have Yy1 := Ry.c1
  have Yy2 := Ry.c2
  have Yy3 := Ry.c3
  have Yy4 := Ry.c4
  have Yy5 := Ry.c5
  have Yz0 := Rz.c0
  have Yz1 := Rz.c1
  have Yz2 := Rz.c2
  have Yz3 := Rz.c3
  have Yz4 := Rz.c4
  have Yz5 := Rz.c5
  have Yr0 := Rr.c0
  have Yr1 := Rr.c1
  have Yr2 := Rr.c2
  clear BR
  go_enter Try.func82, Try.ntmps82
  have tok36 : True := trivial
  have tok37 : True := trivial
  go_wp2_with fail
  go_region_held3 (fun w' => w'.cell? ⟨w.heap.size, 0, none⟩ = some (.bool p.x.neg) ∧ w'.cell? ⟨w.heap.size, 1, none⟩ = some (.slice pa0 p.x.num.length pc0) ∧ w'.cell? ⟨w.heap.size, 2, none⟩ = some (.slice pa1 p.x.den.length pc1) ∧ w'.cell? ⟨w.heap.size, 3, none⟩ = some (.bool p.y.neg) ∧ w'.cell? ⟨w.heap.size, 4, none⟩ = some (.slice pa2 p.y.num.length pc2) ∧ w'.cell? ⟨w.heap.size, 5, none⟩ = some (.slice pa3 p.y.den.length pc3) ∧ w'.cell? ⟨w.heap.size + 1, 0, none⟩ = some (.bool q.x.neg) ∧ w'.cell? ⟨w.heap.size + 1, 1, none⟩ = some (.slice qa0 q.x.num.length qc0) ∧ w'.cell? ⟨w.heap.size + 1, 2, none⟩ = some (.slice qa1 q.x.den.length qc1) ∧ w'.cell? ⟨w.heap.size + 1, 3, none⟩ = some (.bool q.y.neg) ∧ w'.cell? ⟨w.heap.size + 1, 4, none⟩ = some (.slice qa2 q.y.num.length qc2) ∧ w'.cell? ⟨w.heap.size + 1, 5, none⟩ = some (.slice qa3 q.y.den.length qc3) ∧ w'.cell? ⟨w.heap.size + 2, 0, none⟩ = some (.bool t.x.neg) ∧ w'.cell? ⟨w.heap.size + 2, 1, none⟩ = some (.slice ta0 t.x.num.length tc0) ∧ w'.cell? ⟨w.heap.size + 2, 2, none⟩ = some (.slice ta1 t.x.den.length tc1) ∧ w'.cell? ⟨w.heap.size + 2, 3, none⟩ = some (.bool t.y.neg) ∧ w'.cell? ⟨w.heap.size + 2, 4, none⟩ = some (.slice ta2 t.y.num.length tc2) ∧ w'.cell? ⟨w.heap.size + 2, 5, none⟩ = some (.slice ta3 t.y.den.length tc3))
    ((first | exact ⟨Yx0, Yx1, Yx2, Yx3, Yx4, Yx5, Yy0, Yy1, Yy2, Yy3, Yy4, Yy5, Yz0, Yz1, Yz2, Yz3, Yz4, Yz5⟩ | exact ⟨cell_stepD Yx0 b36, cell_stepD Yx1 b36, cell_stepD Yx2 b36, cell_stepD Yx3 b36, cell_stepD Yx4 b36, cell_stepD Yx5 b36, cell_stepD Yy0 b36, cell_stepD Yy1 b36, cell_stepD Yy2 b36, cell_stepD Yy3 b36, cell_stepD Yy4 b36, cell_stepD Yy5 b36, cell_stepD Yz0 b36, cell_stepD Yz1 b36, cell_stepD Yz2 b36, cell_stepD Yz3 b36, cell_stepD Yz4 b36, cell_stepD Yz5 b36⟩ | exact ⟨cell_step (cell_stepD Yx0 b36) b37, cell_step (cell_stepD Yx1 b36) b37, cell_step (cell_stepD Yx2 b36) b37, cell_step (cell_stepD Yx3 b36) b37, cell_step (cell_stepD Yx4 b36) b37, cell_step (cell_stepD Yx5 b36) b37, cell_step (cell_stepD Yy0 b36) b37, cell_step (cell_stepD Yy1 b36) b37, cell_step (cell_stepD Yy2 b36) b37, cell_step (cell_stepD Yy3 b36) b37, cell_step (cell_stepD Yy4 b36) b37, cell_step (cell_stepD Yy5 b36) b37, cell_step (cell_stepD Yz0 b36) b37, cell_step (cell_stepD Yz1 b36) b37, cell_step (cell_stepD Yz2 b36) b37, cell_step (cell_stepD Yz3 b36) b37, cell_step (cell_stepD Yz4 b36) b37, cell_step (cell_stepD Yz5 b36) b37⟩ | exact ⟨cell_step (cell_step (cell_stepD Yx0 b36) b37) b38, cell_step (cell_step (cell_stepD Yx1 b36) b37) b38, cell_step (cell_step (cell_stepD Yx2 b36) b37) b38, cell_step (cell_step (cell_stepD Yx3 b36) b37) b38, cell_step (cell_step (cell_stepD Yx4 b36) b37) b38, cell_step (cell_step (cell_stepD Yx5 b36) b37) b38, cell_step (cell_step (cell_stepD Yy0 b36) b37) b38, cell_step (cell_step (cell_stepD Yy1 b36) b37) b38, cell_step (cell_step (cell_stepD Yy2 b36) b37) b38, cell_step (cell_step (cell_stepD Yy3 b36) b37) b38, cell_step (cell_step (cell_stepD Yy4 b36) b37) b38, cell_step (cell_step (cell_stepD Yy5 b36) b37) b38, cell_step (cell_step (cell_stepD Yz0 b36) b37) b38, cell_step (cell_step (cell_stepD Yz1 b36) b37) b38, cell_step (cell_step (cell_stepD Yz2 b36) b37) b38, cell_step (cell_step (cell_stepD Yz3 b36) b37) b38, cell_step (cell_step (cell_stepD Yz4 b36) b37) b38, cell_step (cell_step (cell_stepD Yz5 b36) b37) b38⟩ | exact ⟨cell_low (cell_low (cell_low (cell_step (cell_step (cell_stepD Yx0 b36) b37) b38) (by first | (simp; done) | (simp; omega) | omega)) (by first | (simp; done) | (simp; omega) | omega)) (by first | (simp; done) | (simp; omega) | omega), cell_low (cell_low (cell_low (cell_step (cell_step (cell_stepD Yx1 b36) b37) b38) (by first | (simp; done) | (simp; omega) | omega)) (by first | (simp; done) | (simp; omega) | omega)) (by first | (simp; done) | (simp; omega) | omega), cell_low (cell_low (cell_low (cell_step (cell_step (cell_stepD Yx2 b36) b37) b38) (by first | (simp; done) | (simp; omega) | omega)) (by first | (simp; done) | (simp; omega) | omega)) (by first | (simp; done) | (simp; omega) | omega), cell_low (cell_low (cell_low (cell_step (cell_step (cell_stepD Yx3 b36) b37) b38) (by first | (simp; done) | (simp; omega) | omega)) (by first | (simp; done) | (simp; omega) | omega)) (by first | (simp; done) | (simp; omega) | omega), cell_low (cell_low (cell_low (cell_step (cell_step (cell_stepD Yx4 b36) b37) b38) (by first | (simp; done) | (simp; omega) | omega)) (by first | (simp; done) | (simp; omega) | omega)) (by first | (simp; done) | (simp; omega) | omega), cell_low (cell_low (cell_low (cell_step (cell_step (cell_stepD Yx5 b36) b37) b38) (by first | (simp; done) | (simp; omega) | omega)) (by first | (simp; done) | (simp; omega) | omega)) (by first | (simp; done) | (simp; omega) | omega), cell_low (cell_low (cell_low (cell_step (cell_step (cell_stepD Yy0 b36) b37) b38) (by first | (simp; done) | (simp; omega) | omega)) (by first | (simp; done) | (simp; omega) | omega)) (by first | (simp; done) | (simp; omega) | omega), cell_low (cell_low (cell_low (cell_step (cell_step (cell_stepD Yy1 b36) b37) b38) (by first | (simp; done) | (simp; omega) | omega)) (by first | (simp; done) | (simp; omega) | omega)) (by first | (simp; done) | (simp; omega) | omega), cell_low (cell_low (cell_low (cell_step (cell_step (cell_stepD Yy2 b36) b37) b38) (by first | (simp; done) | (simp; omega) | omega)) (by first | (simp; done) | (simp; omega) | omega)) (by first | (simp; done) | (simp; omega) | omega), cell_low (cell_low (cell_low (cell_step (cell_step (cell_stepD Yy3 b36) b37) b38) (by first | (simp; done) | (simp; omega) | omega)) (by first | (simp; done) | (simp; omega) | omega)) (by first | (simp; done) | (simp; omega) | omega), cell_low (cell_low (cell_low (cell_step (cell_step (cell_stepD Yy4 b36) b37) b38) (by first | (simp; done) | (simp; omega) | omega)) (by first | (simp; done) | (simp; omega) | omega)) (by first | (simp; done) | (simp; omega) | omega), cell_low (cell_low (cell_low (cell_step (cell_step (cell_stepD Yy5 b36) b37) b38) (by first | (simp; done) | (simp; omega) | omega)) (by first | (simp; done) | (simp; omega) | omega)) (by first | (simp; done) | (simp; omega) | omega), cell_low (cell_low (cell_low (cell_step (cell_step (cell_stepD Yz0 b36) b37) b38) (by first | (simp; done) | (simp; omega) | omega)) (by first | (simp; done) | (simp; omega) | omega)) (by first | (simp; done) | (simp; omega) | omega), cell_low (cell_low (cell_low (cell_step (cell_step (cell_stepD Yz1 b36) b37) b38) (by first | (simp; done) | (simp; omega) | omega)) (by first | (simp; done) | (simp; omega) | omega)) (by first | (simp; done) | (simp; omega) | omega), cell_low (cell_low (cell_low (cell_step (cell_step (cell_stepD Yz2 b36) b37) b38) (by first | (simp; done) | (simp; omega) | omega)) (by first | (simp; done) | (simp; omega) | omega)) (by first | (simp; done) | (simp; omega) | omega), cell_low (cell_low (cell_low (cell_step (cell_step (cell_stepD Yz3 b36) b37) b38) (by first | (simp; done) | (simp; omega) | omega)) (by first | (simp; done) | (simp; omega) | omega)) (by first | (simp; done) | (simp; omega) | omega), cell_low (cell_low (cell_low (cell_step (cell_step (cell_stepD Yz4 b36) b37) b38) (by first | (simp; done) | (simp; omega) | omega)) (by first | (simp; done) | (simp; omega) | omega)) (by first | (simp; done) | (simp; omega) | omega), cell_low (cell_low (cell_low (cell_step (cell_step (cell_stepD Yz5 b36) b37) b38) (by first | (simp; done) | (simp; omega) | omega)) (by first | (simp; done) | (simp; omega) | omega)) (by first | (simp; done) | (simp; omega) | omega)⟩))
    (first | (go_at_call 80; clear tok36; refine (specSubtractPoints_P q p R0 H0.out qa0 qc0 qa1 qc1 qa2 qc2 qa3 qc3 pa0 pc0 pa1 pc1 pa2 pc2 pa3 pc3 _ (qH0.out.below (B.out.drew)) (qH1.out.below (B.out.drew)) (qH2.out.below (B.out.drew)) (qH3.out.below (B.out.drew)) ql (pH0.out.below (B.out.drew)) (pH1.out.below (B.out.drew)) (pH2.out.below (B.out.drew)) (pH3.out.below (B.out.drew)) pl).mono ?_; rintro e W36 ⟨s0p0, s0d0, s0p1, s0d1, s0p2, s0d2, s0p3, s0d3, rfl, hO0, b36⟩; have s36 := b36.size; (try simp at s36)) | (go_at_call 80; clear tok37; refine (specSubtractPoints_P t p R1 H1.out ta0 tc0 ta1 tc1 ta2 tc2 ta3 tc3 pa0 pc0 pa1 pc1 pa2 pc2 pa3 pc3 _ (tH0.out.below (bstepD B.out b36)) (tH1.out.below (bstepD B.out b36)) (tH2.out.below (bstepD B.out b36)) (tH3.out.below (bstepD B.out b36)) tl (pH0.out.below (bstepD B.out b36)) (pH1.out.below (bstepD B.out b36)) (pH2.out.below (bstepD B.out b36)) (pH3.out.below (bstepD B.out b36)) pl).mono ?_; rintro e W37 ⟨s1p0, s1d0, s1p1, s1d1, s1p2, s1d2, s1p3, s1d3, rfl, hO1, b37⟩; have s37 := b37.size; (try simp at s37)) | (go_at_call 76; refine (specCross_P R0 R1 T H2.out s0p0 s0d0 s0p1 s0d1 s0p2 s0d2 s0p3 s0d3 s1p0 s1d0 s1p1 s1d1 s1p2 s1d2 s1p3 s1d3 _ (hO0.below b37).i1 (hO0.below b37).i2 (hO0.below b37).i3 (hO0.below b37).i4 l0 hO1.i1 hO1.i2 hO1.i3 hO1.i4 l1).mono ?_; rintro e W38 ⟨s2p0, s2d0, s2p1, s2d1, rfl, hO2, b38⟩; have s38 := b38.size; (try simp at s38); have Rr := (box_step (box_step (box_step (box_drew Rr) b36) b37) b38); have Yr0 := Rr.cell 0 rfl; have Fr0 := Rr.frozen 0; have Yr1 := Rr.cell 1 rfl; have Fr1 := Rr.frozen 1; have Yr2 := Rr.cell 2 rfl; have Fr2 := Rr.frozen 2; have Lr := Rr.lt))
  have sb36 := b36.size
  try simp at sb36
  have sb37 := b37.size
  have sb38 := b38.size
  have O0 := Lib.hid (((hO0.below b37).below b38))
  clear hO0
  have O1 := Lib.hid ((hO1.below b38))
  clear hO1
  have O2 := Lib.hid (hO2)
  clear hO2
  have B := Lib.hid (bstep (bstep (bstepD B.out b36) b37) b38)
  clear b36 b37 b38
  go_wp2
  refine bodyPost_ret (v := .agg #[.bool T.neg, .slice s2p0 T.num.length s2d0, .slice s2p1 T.den.length s2d1]) (by simp [results, Try.results82, go_sem, Yr0, Yr1, Yr2, Lr]) rfl ⟨s2p0, s2d0, s2p1, s2d1, rfl, ratF_end (by first | omega | (simp; done) | (simp; omega)) (by first | omega | (simp; done) | (simp; omega)) O2.out B.out _ _ _⟩

set_option maxRecDepth 100000 in
set_option maxHeartbeats 4000000 in
theorem specMiddle_P (p : PT) (q : PT) (T : PT) (hT : middlePT p q = T) (pa0 : Option Addr) (pc0 : Nat) (pa1 : Option Addr) (pc1 : Nat) (pa2 : Option Addr) (pc2 : Nat) (pa3 : Option Addr) (pc3 : Nat) (qa0 : Option Addr) (qc0 : Nat) (qa1 : Option Addr) (qc1 : Nat) (qa2 : Option Addr) (qc2 : Nat) (qa3 : Option Addr) (qc3 : Nat) (w : World) (pi0 : IntsAt w pa0 pc0 p.x.num) (pi1 : IntsAt w pa1 pc1 p.x.den) (pi2 : IntsAt w pa2 pc2 p.y.num) (pi3 : IntsAt w pa3 pc3 p.y.den) (pl : LenPT p) (qi0 : IntsAt w qa0 qc0 q.x.num) (qi1 : IntsAt w qa1 qc1 q.x.den) (qi2 : IntsAt w qa2 qc2 q.y.num) (qi3 : IntsAt w qa3 qc3 q.y.den) (ql : LenPT q) : Calls Try.prog 84 #[.agg #[.bool p.x.neg, .slice pa0 p.x.num.length pc0, .slice pa1 p.x.den.length pc1, .bool p.y.neg, .slice pa2 p.y.num.length pc2, .slice pa3 p.y.den.length pc3], .agg #[.bool q.x.neg, .slice qa0 q.x.num.length qc0, .slice qa1 q.x.den.length qc1, .bool q.y.neg, .slice qa2 q.y.num.length qc2, .slice qa3 q.y.den.length qc3]] w (PtRetS w T) := by
  obtain ⟨R0, h0⟩ : ∃ R, ratOfP 1 2  = R := ⟨_, rfl⟩
  have o0 : RaOr R0 := by rw [← h0]; exact raOr_of _ _
  have l0 := o0.len'
  have H0 := Lib.hid h0
  obtain ⟨R1, h1⟩ : ∃ R, addPT p q = R := ⟨_, rfl⟩
  have o1 : PtOr R1 := by rw [← h1]; exact ptOr_add _ _
  have l1 := o1.len'
  have H1 := Lib.hid h1
  have H2 : Hid (scalePT R0 R1 = T) := by unfold Hid; rw [← hT, ← h0, ← h1]; rfl
  clear hT h0 h1
  have pH0 := Lib.hid pi0
  have pH1 := Lib.hid pi1
  have pH2 := Lib.hid pi2
  have pH3 := Lib.hid pi3
  have qH0 := Lib.hid qi0
  have qH1 := Lib.hid qi1
  have qH2 := Lib.hid qi2
  have qH3 := Lib.hid qi3
  clear pi0 pi1 pi2 pi3 qi0 qi1 qi2 qi3
  have BR : Below (((w.alloc (.cells #[.bool p.x.neg, .slice pa0 p.x.num.length pc0, .slice pa1 p.x.den.length pc1, .bool p.y.neg, .slice pa2 p.y.num.length pc2, .slice pa3 p.y.den.length pc3] 32)).alloc (.cells #[.bool q.x.neg, .slice qa0 q.x.num.length qc0, .slice qa1 q.x.den.length qc1, .bool q.y.neg, .slice qa2 q.y.num.length qc2, .slice qa3 q.y.den.length qc3] 32)).alloc (.cells #[.bool false, .slice none 0 0, .slice none 0 0, .bool false, .slice none 0 0, .slice none 0 0] 32)).heap.size (((w.alloc (.cells #[.bool p.x.neg, .slice pa0 p.x.num.length pc0, .slice pa1 p.x.den.length pc1, .bool p.y.neg, .slice pa2 p.y.num.length pc2, .slice pa3 p.y.den.length pc3] 32)).alloc (.cells #[.bool q.x.neg, .slice qa0 q.x.num.length qc0, .slice qa1 q.x.den.length qc1, .bool q.y.neg, .slice qa2 q.y.num.length qc2, .slice qa3 q.y.den.length qc3] 32)).alloc (.cells #[.bool false, .slice none 0 0, .slice none 0 0, .bool false, .slice none 0 0, .slice none 0 0] 32)) (((w.alloc (.cells #[.bool p.x.neg, .slice pa0 p.x.num.length pc0, .slice pa1 p.x.den.length pc1, .bool p.y.neg, .slice pa2 p.y.num.length pc2, .slice pa3 p.y.den.length pc3] 32)).alloc (.cells #[.bool q.x.neg, .slice qa0 q.x.num.length qc0, .slice qa1 q.x.den.length qc1, .bool q.y.neg, .slice qa2 q.y.num.length qc2, .slice qa3 q.y.den.length qc3] 32)).alloc (.cells #[.bool false, .slice none 0 0, .slice none 0 0, .bool false, .slice none 0 0, .slice none 0 0] 32)) := Below.refl _ _
  have Rx := bx3_0 BR
  have Ry := bx3_1 BR
  have Rr := bx3_2 BR
  have B : Hid (Below w.heap.size w (((w.alloc (.cells #[.bool p.x.neg, .slice pa0 p.x.num.length pc0, .slice pa1 p.x.den.length pc1, .bool p.y.neg, .slice pa2 p.y.num.length pc2, .slice pa3 p.y.den.length pc3] 32)).alloc (.cells #[.bool q.x.neg, .slice qa0 q.x.num.length qc0, .slice qa1 q.x.den.length qc1, .bool q.y.neg, .slice qa2 q.y.num.length qc2, .slice qa3 q.y.den.length qc3] 32)).alloc (.cells #[.bool false, .slice none 0 0, .slice none 0 0, .bool false, .slice none 0 0, .slice none 0 0] 32))) := Lib.hid (ba3 _ _ _ _)
  have Yx0 := Rx.c0
  have Yx1 := Rx.c1
  have Yx2 := Rx.c2
  have Yx3 := Rx.c3
  have Yx4 := Rx.c4
  have Yx5 := Rx.c5
  have Yy0 := Ry.c0
  have Yy1 := Ry.c1
  have Yy2 := Ry.c2
  have Yy3 := Ry.c3
  have Yy4 := Ry.c4
  have Yy5 := Ry.c5
  have Yr0 := Rr.c0
  have Yr1 := Rr.c1
  have Yr2 := Rr.c2
  have Yr3 := Rr.c3
  have Yr4 := Rr.c4
  have Yr5 := Rr.c5
  clear BR
  go_enter Try.func84, Try.ntmps84
  go_wp2_with fail
  go_region_held3 (fun w' => w'.cell? ⟨w.heap.size, 0, none⟩ = some (.bool p.x.neg) ∧ w'.cell? ⟨w.heap.size, 1, none⟩ = some (.slice pa0 p.x.num.length pc0) ∧ w'.cell? ⟨w.heap.size, 2, none⟩ = some (.slice pa1 p.x.den.length pc1) ∧ w'.cell? ⟨w.heap.size, 3, none⟩ = some (.bool p.y.neg) ∧ w'.cell? ⟨w.heap.size, 4, none⟩ = some (.slice pa2 p.y.num.length pc2) ∧ w'.cell? ⟨w.heap.size, 5, none⟩ = some (.slice pa3 p.y.den.length pc3) ∧ w'.cell? ⟨w.heap.size + 1, 0, none⟩ = some (.bool q.x.neg) ∧ w'.cell? ⟨w.heap.size + 1, 1, none⟩ = some (.slice qa0 q.x.num.length qc0) ∧ w'.cell? ⟨w.heap.size + 1, 2, none⟩ = some (.slice qa1 q.x.den.length qc1) ∧ w'.cell? ⟨w.heap.size + 1, 3, none⟩ = some (.bool q.y.neg) ∧ w'.cell? ⟨w.heap.size + 1, 4, none⟩ = some (.slice qa2 q.y.num.length qc2) ∧ w'.cell? ⟨w.heap.size + 1, 5, none⟩ = some (.slice qa3 q.y.den.length qc3))
    ((refine ⟨?_, ?_, ?_, ?_, ?_, ?_, ?_, ?_, ?_, ?_, ?_, ?_⟩ <;> (repeat first | with_reducible assumption | with_reducible refine cell_low ?_ (by first | (simp; done) | (simp; omega) | omega) | with_reducible refine cell_step ?_ b39 | with_reducible refine cell_step ?_ b40 | with_reducible refine cell_step ?_ b41 | with_reducible refine cell_dr ?_)))
    (first | (go_at_call 46; refine (specRatOf12 R0 H0.out _).mono ?_; rintro e W39 ⟨s0p0, s0d0, s0p1, s0d1, rfl, hO0, b39⟩; have s39 := b39.size; (try simp at s39)) | (go_at_call 78; refine (specAddPoints_P p q R1 H1.out pa0 pc0 pa1 pc1 pa2 pc2 pa3 pc3 qa0 qc0 qa1 qc1 qa2 qc2 qa3 qc3 _ (pH0.out.below (bstepD B.out b39)) (pH1.out.below (bstepD B.out b39)) (pH2.out.below (bstepD B.out b39)) (pH3.out.below (bstepD B.out b39)) pl (qH0.out.below (bstepD B.out b39)) (qH1.out.below (bstepD B.out b39)) (qH2.out.below (bstepD B.out b39)) (qH3.out.below (bstepD B.out b39)) ql).mono ?_; rintro e W40 ⟨s1p0, s1d0, s1p1, s1d1, s1p2, s1d2, s1p3, s1d3, rfl, hO1, b40⟩; have s40 := b40.size; (try simp at s40)) | (go_at_call 68; refine (specScalePoint_P R0 R1 T H2.out s0p0 s0d0 s0p1 s0d1 s1p0 s1d0 s1p1 s1d1 s1p2 s1d2 s1p3 s1d3 _ (hO0.below b40).i1 (hO0.below b40).i2 l0 hO1.i1 hO1.i2 hO1.i3 hO1.i4 l1).mono ?_; rintro e W41 ⟨s2p0, s2d0, s2p1, s2d1, s2p2, s2d2, s2p3, s2d3, rfl, hO2, b41⟩; have s41 := b41.size; (try simp at s41); have Rr := (box_step (box_step (box_step (box_drew Rr) b39) b40) b41); have Yr0 := Rr.cell 0 rfl; have Fr0 := Rr.frozen 0; have Yr1 := Rr.cell 1 rfl; have Fr1 := Rr.frozen 1; have Yr2 := Rr.cell 2 rfl; have Fr2 := Rr.frozen 2; have Yr3 := Rr.cell 3 rfl; have Fr3 := Rr.frozen 3; have Yr4 := Rr.cell 4 rfl; have Fr4 := Rr.frozen 4; have Yr5 := Rr.cell 5 rfl; have Fr5 := Rr.frozen 5; have Lr := Rr.lt))
  have sb39 := b39.size
  try simp at sb39
  have sb40 := b40.size
  have sb41 := b41.size
  have O0 := Lib.hid (((hO0.below b40).below b41))
  clear hO0
  have O1 := Lib.hid ((hO1.below b41))
  clear hO1
  have O2 := Lib.hid (hO2)
  clear hO2
  have B := Lib.hid (bstep (bstep (bstepD B.out b39) b40) b41)
  clear b39 b40 b41
  go_wp2
  refine bodyPost_ret (v := .agg #[.bool T.x.neg, .slice s2p0 T.x.num.length s2d0, .slice s2p1 T.x.den.length s2d1, .bool T.y.neg, .slice s2p2 T.y.num.length s2d2, .slice s2p3 T.y.den.length s2d3]) (by simp [results, Try.results84, go_sem, Yr0, Yr1, Yr2, Yr3, Yr4, Yr5, Lr]) rfl ⟨s2p0, s2d0, s2p1, s2d1, s2p2, s2d2, s2p3, s2d3, rfl, ptF_end (by first | omega | (simp; done) | (simp; omega)) (by first | omega | (simp; done) | (simp; omega)) O2.out B.out⟩

theorem specAddPoints_own (n0 : Bool) (a00 : Option Addr) (c00 : Nat) (x00 : List Int) (a01 : Option Addr) (c01 : Nat) (x01 : List Int) (m0 : Bool) (a02 : Option Addr) (c02 : Nat) (x02 : List Int) (a03 : Option Addr) (c03 : Nat) (x03 : List Int) (n1 : Bool) (a10 : Option Addr) (c10 : Nat) (x10 : List Int) (a11 : Option Addr) (c11 : Nat) (x11 : List Int) (m1 : Bool) (a12 : Option Addr) (c12 : Nat) (x12 : List Int) (a13 : Option Addr) (c13 : Nat) (x13 : List Int) (w : World) (i00 : IntsAt w a00 c00 x00) (l00 : x00.length ≤ 1048576) (i01 : IntsAt w a01 c01 x01) (l01 : x01.length ≤ 1048576) (i02 : IntsAt w a02 c02 x02) (l02 : x02.length ≤ 1048576) (i03 : IntsAt w a03 c03 x03) (l03 : x03.length ≤ 1048576) (i10 : IntsAt w a10 c10 x10) (l10 : x10.length ≤ 1048576) (i11 : IntsAt w a11 c11 x11) (l11 : x11.length ≤ 1048576) (i12 : IntsAt w a12 c12 x12) (l12 : x12.length ≤ 1048576) (i13 : IntsAt w a13 c13 x13) (l13 : x13.length ≤ 1048576) : Calls Try.prog 78 #[.agg #[.bool n0, .slice a00 x00.length c00, .slice a01 x01.length c01, .bool m0, .slice a02 x02.length c02, .slice a03 x03.length c03], .agg #[.bool n1, .slice a10 x10.length c10, .slice a11 x11.length c11, .bool m1, .slice a12 x12.length c12, .slice a13 x13.length c13]] w (PtRetS w (addPT (pt n0 x00 x01 m0 x02 x03) (pt n1 x10 x11 m1 x12 x13))) :=
  specAddPoints_P (pt n0 x00 x01 m0 x02 x03) (pt n1 x10 x11 m1 x12 x13) _ rfl a00 c00 a01 c01 a02 c02 a03 c03 a10 c10 a11 c11 a12 c12 a13 c13 w i00 i01 i02 i03 ⟨⟨l00, l01⟩, ⟨l02, l03⟩⟩ i10 i11 i12 i13 ⟨⟨l10, l11⟩, ⟨l12, l13⟩⟩

theorem specSubtractPoints_own (n0 : Bool) (a00 : Option Addr) (c00 : Nat) (x00 : List Int) (a01 : Option Addr) (c01 : Nat) (x01 : List Int) (m0 : Bool) (a02 : Option Addr) (c02 : Nat) (x02 : List Int) (a03 : Option Addr) (c03 : Nat) (x03 : List Int) (n1 : Bool) (a10 : Option Addr) (c10 : Nat) (x10 : List Int) (a11 : Option Addr) (c11 : Nat) (x11 : List Int) (m1 : Bool) (a12 : Option Addr) (c12 : Nat) (x12 : List Int) (a13 : Option Addr) (c13 : Nat) (x13 : List Int) (w : World) (i00 : IntsAt w a00 c00 x00) (l00 : x00.length ≤ 1048576) (i01 : IntsAt w a01 c01 x01) (l01 : x01.length ≤ 1048576) (i02 : IntsAt w a02 c02 x02) (l02 : x02.length ≤ 1048576) (i03 : IntsAt w a03 c03 x03) (l03 : x03.length ≤ 1048576) (i10 : IntsAt w a10 c10 x10) (l10 : x10.length ≤ 1048576) (i11 : IntsAt w a11 c11 x11) (l11 : x11.length ≤ 1048576) (i12 : IntsAt w a12 c12 x12) (l12 : x12.length ≤ 1048576) (i13 : IntsAt w a13 c13 x13) (l13 : x13.length ≤ 1048576) : Calls Try.prog 80 #[.agg #[.bool n0, .slice a00 x00.length c00, .slice a01 x01.length c01, .bool m0, .slice a02 x02.length c02, .slice a03 x03.length c03], .agg #[.bool n1, .slice a10 x10.length c10, .slice a11 x11.length c11, .bool m1, .slice a12 x12.length c12, .slice a13 x13.length c13]] w (PtRetS w (subPT (pt n0 x00 x01 m0 x02 x03) (pt n1 x10 x11 m1 x12 x13))) :=
  specSubtractPoints_P (pt n0 x00 x01 m0 x02 x03) (pt n1 x10 x11 m1 x12 x13) _ rfl a00 c00 a01 c01 a02 c02 a03 c03 a10 c10 a11 c11 a12 c12 a13 c13 w i00 i01 i02 i03 ⟨⟨l00, l01⟩, ⟨l02, l03⟩⟩ i10 i11 i12 i13 ⟨⟨l10, l11⟩, ⟨l12, l13⟩⟩

theorem specScalePoint_own (n0 : Bool) (a00 : Option Addr) (c00 : Nat) (x00 : List Int) (a01 : Option Addr) (c01 : Nat) (x01 : List Int) (n1 : Bool) (a10 : Option Addr) (c10 : Nat) (x10 : List Int) (a11 : Option Addr) (c11 : Nat) (x11 : List Int) (m1 : Bool) (a12 : Option Addr) (c12 : Nat) (x12 : List Int) (a13 : Option Addr) (c13 : Nat) (x13 : List Int) (w : World) (i00 : IntsAt w a00 c00 x00) (l00 : x00.length ≤ 1048576) (i01 : IntsAt w a01 c01 x01) (l01 : x01.length ≤ 1048576) (i10 : IntsAt w a10 c10 x10) (l10 : x10.length ≤ 1048576) (i11 : IntsAt w a11 c11 x11) (l11 : x11.length ≤ 1048576) (i12 : IntsAt w a12 c12 x12) (l12 : x12.length ≤ 1048576) (i13 : IntsAt w a13 c13 x13) (l13 : x13.length ≤ 1048576) : Calls Try.prog 68 #[.agg #[.bool n0, .slice a00 x00.length c00, .slice a01 x01.length c01], .agg #[.bool n1, .slice a10 x10.length c10, .slice a11 x11.length c11, .bool m1, .slice a12 x12.length c12, .slice a13 x13.length c13]] w (PtRetS w (scalePT ⟨n0, x00, x01⟩ (pt n1 x10 x11 m1 x12 x13))) :=
  specScalePoint_P ⟨n0, x00, x01⟩ (pt n1 x10 x11 m1 x12 x13) _ rfl a00 c00 a01 c01 a10 c10 a11 c11 a12 c12 a13 c13 w i00 i01 ⟨l00, l01⟩ i10 i11 i12 i13 ⟨⟨l10, l11⟩, ⟨l12, l13⟩⟩

theorem specInner_own (n0 : Bool) (a00 : Option Addr) (c00 : Nat) (x00 : List Int) (a01 : Option Addr) (c01 : Nat) (x01 : List Int) (m0 : Bool) (a02 : Option Addr) (c02 : Nat) (x02 : List Int) (a03 : Option Addr) (c03 : Nat) (x03 : List Int) (n1 : Bool) (a10 : Option Addr) (c10 : Nat) (x10 : List Int) (a11 : Option Addr) (c11 : Nat) (x11 : List Int) (m1 : Bool) (a12 : Option Addr) (c12 : Nat) (x12 : List Int) (a13 : Option Addr) (c13 : Nat) (x13 : List Int) (w : World) (i00 : IntsAt w a00 c00 x00) (l00 : x00.length ≤ 1048576) (i01 : IntsAt w a01 c01 x01) (l01 : x01.length ≤ 1048576) (i02 : IntsAt w a02 c02 x02) (l02 : x02.length ≤ 1048576) (i03 : IntsAt w a03 c03 x03) (l03 : x03.length ≤ 1048576) (i10 : IntsAt w a10 c10 x10) (l10 : x10.length ≤ 1048576) (i11 : IntsAt w a11 c11 x11) (l11 : x11.length ≤ 1048576) (i12 : IntsAt w a12 c12 x12) (l12 : x12.length ≤ 1048576) (i13 : IntsAt w a13 c13 x13) (l13 : x13.length ≤ 1048576) : Calls Try.prog 74 #[.agg #[.bool n0, .slice a00 x00.length c00, .slice a01 x01.length c01, .bool m0, .slice a02 x02.length c02, .slice a03 x03.length c03], .agg #[.bool n1, .slice a10 x10.length c10, .slice a11 x11.length c11, .bool m1, .slice a12 x12.length c12, .slice a13 x13.length c13]] w (RatRetS w (innerPT (pt n0 x00 x01 m0 x02 x03) (pt n1 x10 x11 m1 x12 x13))) :=
  specInner_P (pt n0 x00 x01 m0 x02 x03) (pt n1 x10 x11 m1 x12 x13) _ rfl a00 c00 a01 c01 a02 c02 a03 c03 a10 c10 a11 c11 a12 c12 a13 c13 w i00 i01 i02 i03 ⟨⟨l00, l01⟩, ⟨l02, l03⟩⟩ i10 i11 i12 i13 ⟨⟨l10, l11⟩, ⟨l12, l13⟩⟩
theorem specInner_any (n0 : Bool) (a00 : Option Addr) (c00 : Nat) (x00 : List Int) (a01 : Option Addr) (c01 : Nat) (x01 : List Int) (m0 : Bool) (a02 : Option Addr) (c02 : Nat) (x02 : List Int) (a03 : Option Addr) (c03 : Nat) (x03 : List Int) (n1 : Bool) (a10 : Option Addr) (c10 : Nat) (x10 : List Int) (a11 : Option Addr) (c11 : Nat) (x11 : List Int) (m1 : Bool) (a12 : Option Addr) (c12 : Nat) (x12 : List Int) (a13 : Option Addr) (c13 : Nat) (x13 : List Int) (w : World) (i00 : IntsAt w a00 c00 x00) (l00 : x00.length ≤ 1048576) (i01 : IntsAt w a01 c01 x01) (l01 : x01.length ≤ 1048576) (i02 : IntsAt w a02 c02 x02) (l02 : x02.length ≤ 1048576) (i03 : IntsAt w a03 c03 x03) (l03 : x03.length ≤ 1048576) (i10 : IntsAt w a10 c10 x10) (l10 : x10.length ≤ 1048576) (i11 : IntsAt w a11 c11 x11) (l11 : x11.length ≤ 1048576) (i12 : IntsAt w a12 c12 x12) (l12 : x12.length ≤ 1048576) (i13 : IntsAt w a13 c13 x13) (l13 : x13.length ≤ 1048576) : Calls Try.prog 74 #[.agg #[.bool n0, .slice a00 x00.length c00, .slice a01 x01.length c01, .bool m0, .slice a02 x02.length c02, .slice a03 x03.length c03], .agg #[.bool n1, .slice a10 x10.length c10, .slice a11 x11.length c11, .bool m1, .slice a12 x12.length c12, .slice a13 x13.length c13]] w fun e w' => ∃ p c p2 c2, e = .returned (.agg #[.bool (innerPT (pt n0 x00 x01 m0 x02 x03) (pt n1 x10 x11 m1 x12 x13)).neg, .slice p (innerPT (pt n0 x00 x01 m0 x02 x03) (pt n1 x10 x11 m1 x12 x13)).num.length c, .slice p2 (innerPT (pt n0 x00 x01 m0 x02 x03) (pt n1 x10 x11 m1 x12 x13)).den.length c2]) ∧ IntsAt w' p c (innerPT (pt n0 x00 x01 m0 x02 x03) (pt n1 x10 x11 m1 x12 x13)).num ∧ IntsAt w' p2 c2 (innerPT (pt n0 x00 x01 m0 x02 x03) (pt n1 x10 x11 m1 x12 x13)).den ∧ Below w.heap.size w w' :=
  (specInner_own n0 a00 c00 x00 a01 c01 x01 m0 a02 c02 x02 a03 c03 x03 n1 a10 c10 x10 a11 c11 x11 m1 a12 c12 x12 a13 c13 x13 w i00 l00 i01 l01 i02 l02 i03 l03 i10 l10 i11 l11 i12 l12 i13 l13).mono fun _ _ ⟨p, c, p2, c2, h1, h2, h3⟩ => ⟨p, c, p2, c2, h1, h2.i1, h2.i2, h3⟩

theorem specCross_own (n0 : Bool) (a00 : Option Addr) (c00 : Nat) (x00 : List Int) (a01 : Option Addr) (c01 : Nat) (x01 : List Int) (m0 : Bool) (a02 : Option Addr) (c02 : Nat) (x02 : List Int) (a03 : Option Addr) (c03 : Nat) (x03 : List Int) (n1 : Bool) (a10 : Option Addr) (c10 : Nat) (x10 : List Int) (a11 : Option Addr) (c11 : Nat) (x11 : List Int) (m1 : Bool) (a12 : Option Addr) (c12 : Nat) (x12 : List Int) (a13 : Option Addr) (c13 : Nat) (x13 : List Int) (w : World) (i00 : IntsAt w a00 c00 x00) (l00 : x00.length ≤ 1048576) (i01 : IntsAt w a01 c01 x01) (l01 : x01.length ≤ 1048576) (i02 : IntsAt w a02 c02 x02) (l02 : x02.length ≤ 1048576) (i03 : IntsAt w a03 c03 x03) (l03 : x03.length ≤ 1048576) (i10 : IntsAt w a10 c10 x10) (l10 : x10.length ≤ 1048576) (i11 : IntsAt w a11 c11 x11) (l11 : x11.length ≤ 1048576) (i12 : IntsAt w a12 c12 x12) (l12 : x12.length ≤ 1048576) (i13 : IntsAt w a13 c13 x13) (l13 : x13.length ≤ 1048576) : Calls Try.prog 76 #[.agg #[.bool n0, .slice a00 x00.length c00, .slice a01 x01.length c01, .bool m0, .slice a02 x02.length c02, .slice a03 x03.length c03], .agg #[.bool n1, .slice a10 x10.length c10, .slice a11 x11.length c11, .bool m1, .slice a12 x12.length c12, .slice a13 x13.length c13]] w (RatRetS w (crossPT (pt n0 x00 x01 m0 x02 x03) (pt n1 x10 x11 m1 x12 x13))) :=
  specCross_P (pt n0 x00 x01 m0 x02 x03) (pt n1 x10 x11 m1 x12 x13) _ rfl a00 c00 a01 c01 a02 c02 a03 c03 a10 c10 a11 c11 a12 c12 a13 c13 w i00 i01 i02 i03 ⟨⟨l00, l01⟩, ⟨l02, l03⟩⟩ i10 i11 i12 i13 ⟨⟨l10, l11⟩, ⟨l12, l13⟩⟩
theorem specCross_any (n0 : Bool) (a00 : Option Addr) (c00 : Nat) (x00 : List Int) (a01 : Option Addr) (c01 : Nat) (x01 : List Int) (m0 : Bool) (a02 : Option Addr) (c02 : Nat) (x02 : List Int) (a03 : Option Addr) (c03 : Nat) (x03 : List Int) (n1 : Bool) (a10 : Option Addr) (c10 : Nat) (x10 : List Int) (a11 : Option Addr) (c11 : Nat) (x11 : List Int) (m1 : Bool) (a12 : Option Addr) (c12 : Nat) (x12 : List Int) (a13 : Option Addr) (c13 : Nat) (x13 : List Int) (w : World) (i00 : IntsAt w a00 c00 x00) (l00 : x00.length ≤ 1048576) (i01 : IntsAt w a01 c01 x01) (l01 : x01.length ≤ 1048576) (i02 : IntsAt w a02 c02 x02) (l02 : x02.length ≤ 1048576) (i03 : IntsAt w a03 c03 x03) (l03 : x03.length ≤ 1048576) (i10 : IntsAt w a10 c10 x10) (l10 : x10.length ≤ 1048576) (i11 : IntsAt w a11 c11 x11) (l11 : x11.length ≤ 1048576) (i12 : IntsAt w a12 c12 x12) (l12 : x12.length ≤ 1048576) (i13 : IntsAt w a13 c13 x13) (l13 : x13.length ≤ 1048576) : Calls Try.prog 76 #[.agg #[.bool n0, .slice a00 x00.length c00, .slice a01 x01.length c01, .bool m0, .slice a02 x02.length c02, .slice a03 x03.length c03], .agg #[.bool n1, .slice a10 x10.length c10, .slice a11 x11.length c11, .bool m1, .slice a12 x12.length c12, .slice a13 x13.length c13]] w fun e w' => ∃ p c p2 c2, e = .returned (.agg #[.bool (crossPT (pt n0 x00 x01 m0 x02 x03) (pt n1 x10 x11 m1 x12 x13)).neg, .slice p (crossPT (pt n0 x00 x01 m0 x02 x03) (pt n1 x10 x11 m1 x12 x13)).num.length c, .slice p2 (crossPT (pt n0 x00 x01 m0 x02 x03) (pt n1 x10 x11 m1 x12 x13)).den.length c2]) ∧ IntsAt w' p c (crossPT (pt n0 x00 x01 m0 x02 x03) (pt n1 x10 x11 m1 x12 x13)).num ∧ IntsAt w' p2 c2 (crossPT (pt n0 x00 x01 m0 x02 x03) (pt n1 x10 x11 m1 x12 x13)).den ∧ Below w.heap.size w w' :=
  (specCross_own n0 a00 c00 x00 a01 c01 x01 m0 a02 c02 x02 a03 c03 x03 n1 a10 c10 x10 a11 c11 x11 m1 a12 c12 x12 a13 c13 x13 w i00 l00 i01 l01 i02 l02 i03 l03 i10 l10 i11 l11 i12 l12 i13 l13).mono fun _ _ ⟨p, c, p2, c2, h1, h2, h3⟩ => ⟨p, c, p2, c2, h1, h2.i1, h2.i2, h3⟩

theorem specDoubleArea_own (n0 : Bool) (a00 : Option Addr) (c00 : Nat) (x00 : List Int) (a01 : Option Addr) (c01 : Nat) (x01 : List Int) (m0 : Bool) (a02 : Option Addr) (c02 : Nat) (x02 : List Int) (a03 : Option Addr) (c03 : Nat) (x03 : List Int) (n1 : Bool) (a10 : Option Addr) (c10 : Nat) (x10 : List Int) (a11 : Option Addr) (c11 : Nat) (x11 : List Int) (m1 : Bool) (a12 : Option Addr) (c12 : Nat) (x12 : List Int) (a13 : Option Addr) (c13 : Nat) (x13 : List Int) (n2 : Bool) (a20 : Option Addr) (c20 : Nat) (x20 : List Int) (a21 : Option Addr) (c21 : Nat) (x21 : List Int) (m2 : Bool) (a22 : Option Addr) (c22 : Nat) (x22 : List Int) (a23 : Option Addr) (c23 : Nat) (x23 : List Int) (w : World) (i00 : IntsAt w a00 c00 x00) (l00 : x00.length ≤ 1048576) (i01 : IntsAt w a01 c01 x01) (l01 : x01.length ≤ 1048576) (i02 : IntsAt w a02 c02 x02) (l02 : x02.length ≤ 1048576) (i03 : IntsAt w a03 c03 x03) (l03 : x03.length ≤ 1048576) (i10 : IntsAt w a10 c10 x10) (l10 : x10.length ≤ 1048576) (i11 : IntsAt w a11 c11 x11) (l11 : x11.length ≤ 1048576) (i12 : IntsAt w a12 c12 x12) (l12 : x12.length ≤ 1048576) (i13 : IntsAt w a13 c13 x13) (l13 : x13.length ≤ 1048576) (i20 : IntsAt w a20 c20 x20) (l20 : x20.length ≤ 1048576) (i21 : IntsAt w a21 c21 x21) (l21 : x21.length ≤ 1048576) (i22 : IntsAt w a22 c22 x22) (l22 : x22.length ≤ 1048576) (i23 : IntsAt w a23 c23 x23) (l23 : x23.length ≤ 1048576) : Calls Try.prog 82 #[.agg #[.bool n0, .slice a00 x00.length c00, .slice a01 x01.length c01, .bool m0, .slice a02 x02.length c02, .slice a03 x03.length c03], .agg #[.bool n1, .slice a10 x10.length c10, .slice a11 x11.length c11, .bool m1, .slice a12 x12.length c12, .slice a13 x13.length c13], .agg #[.bool n2, .slice a20 x20.length c20, .slice a21 x21.length c21, .bool m2, .slice a22 x22.length c22, .slice a23 x23.length c23]] w (RatRetS w (areaPT (pt n0 x00 x01 m0 x02 x03) (pt n1 x10 x11 m1 x12 x13) (pt n2 x20 x21 m2 x22 x23))) :=
  specDoubleArea_P (pt n0 x00 x01 m0 x02 x03) (pt n1 x10 x11 m1 x12 x13) (pt n2 x20 x21 m2 x22 x23) _ rfl a00 c00 a01 c01 a02 c02 a03 c03 a10 c10 a11 c11 a12 c12 a13 c13 a20 c20 a21 c21 a22 c22 a23 c23 w i00 i01 i02 i03 ⟨⟨l00, l01⟩, ⟨l02, l03⟩⟩ i10 i11 i12 i13 ⟨⟨l10, l11⟩, ⟨l12, l13⟩⟩ i20 i21 i22 i23 ⟨⟨l20, l21⟩, ⟨l22, l23⟩⟩
theorem specDoubleArea_any (n0 : Bool) (a00 : Option Addr) (c00 : Nat) (x00 : List Int) (a01 : Option Addr) (c01 : Nat) (x01 : List Int) (m0 : Bool) (a02 : Option Addr) (c02 : Nat) (x02 : List Int) (a03 : Option Addr) (c03 : Nat) (x03 : List Int) (n1 : Bool) (a10 : Option Addr) (c10 : Nat) (x10 : List Int) (a11 : Option Addr) (c11 : Nat) (x11 : List Int) (m1 : Bool) (a12 : Option Addr) (c12 : Nat) (x12 : List Int) (a13 : Option Addr) (c13 : Nat) (x13 : List Int) (n2 : Bool) (a20 : Option Addr) (c20 : Nat) (x20 : List Int) (a21 : Option Addr) (c21 : Nat) (x21 : List Int) (m2 : Bool) (a22 : Option Addr) (c22 : Nat) (x22 : List Int) (a23 : Option Addr) (c23 : Nat) (x23 : List Int) (w : World) (i00 : IntsAt w a00 c00 x00) (l00 : x00.length ≤ 1048576) (i01 : IntsAt w a01 c01 x01) (l01 : x01.length ≤ 1048576) (i02 : IntsAt w a02 c02 x02) (l02 : x02.length ≤ 1048576) (i03 : IntsAt w a03 c03 x03) (l03 : x03.length ≤ 1048576) (i10 : IntsAt w a10 c10 x10) (l10 : x10.length ≤ 1048576) (i11 : IntsAt w a11 c11 x11) (l11 : x11.length ≤ 1048576) (i12 : IntsAt w a12 c12 x12) (l12 : x12.length ≤ 1048576) (i13 : IntsAt w a13 c13 x13) (l13 : x13.length ≤ 1048576) (i20 : IntsAt w a20 c20 x20) (l20 : x20.length ≤ 1048576) (i21 : IntsAt w a21 c21 x21) (l21 : x21.length ≤ 1048576) (i22 : IntsAt w a22 c22 x22) (l22 : x22.length ≤ 1048576) (i23 : IntsAt w a23 c23 x23) (l23 : x23.length ≤ 1048576) : Calls Try.prog 82 #[.agg #[.bool n0, .slice a00 x00.length c00, .slice a01 x01.length c01, .bool m0, .slice a02 x02.length c02, .slice a03 x03.length c03], .agg #[.bool n1, .slice a10 x10.length c10, .slice a11 x11.length c11, .bool m1, .slice a12 x12.length c12, .slice a13 x13.length c13], .agg #[.bool n2, .slice a20 x20.length c20, .slice a21 x21.length c21, .bool m2, .slice a22 x22.length c22, .slice a23 x23.length c23]] w fun e w' => ∃ p c p2 c2, e = .returned (.agg #[.bool (areaPT (pt n0 x00 x01 m0 x02 x03) (pt n1 x10 x11 m1 x12 x13) (pt n2 x20 x21 m2 x22 x23)).neg, .slice p (areaPT (pt n0 x00 x01 m0 x02 x03) (pt n1 x10 x11 m1 x12 x13) (pt n2 x20 x21 m2 x22 x23)).num.length c, .slice p2 (areaPT (pt n0 x00 x01 m0 x02 x03) (pt n1 x10 x11 m1 x12 x13) (pt n2 x20 x21 m2 x22 x23)).den.length c2]) ∧ IntsAt w' p c (areaPT (pt n0 x00 x01 m0 x02 x03) (pt n1 x10 x11 m1 x12 x13) (pt n2 x20 x21 m2 x22 x23)).num ∧ IntsAt w' p2 c2 (areaPT (pt n0 x00 x01 m0 x02 x03) (pt n1 x10 x11 m1 x12 x13) (pt n2 x20 x21 m2 x22 x23)).den ∧ Below w.heap.size w w' :=
  (specDoubleArea_own n0 a00 c00 x00 a01 c01 x01 m0 a02 c02 x02 a03 c03 x03 n1 a10 c10 x10 a11 c11 x11 m1 a12 c12 x12 a13 c13 x13 n2 a20 c20 x20 a21 c21 x21 m2 a22 c22 x22 a23 c23 x23 w i00 l00 i01 l01 i02 l02 i03 l03 i10 l10 i11 l11 i12 l12 i13 l13 i20 l20 i21 l21 i22 l22 i23 l23).mono fun _ _ ⟨p, c, p2, c2, h1, h2, h3⟩ => ⟨p, c, p2, c2, h1, h2.i1, h2.i2, h3⟩

theorem specMiddle_own (n0 : Bool) (a00 : Option Addr) (c00 : Nat) (x00 : List Int) (a01 : Option Addr) (c01 : Nat) (x01 : List Int) (m0 : Bool) (a02 : Option Addr) (c02 : Nat) (x02 : List Int) (a03 : Option Addr) (c03 : Nat) (x03 : List Int) (n1 : Bool) (a10 : Option Addr) (c10 : Nat) (x10 : List Int) (a11 : Option Addr) (c11 : Nat) (x11 : List Int) (m1 : Bool) (a12 : Option Addr) (c12 : Nat) (x12 : List Int) (a13 : Option Addr) (c13 : Nat) (x13 : List Int) (w : World) (i00 : IntsAt w a00 c00 x00) (l00 : x00.length ≤ 1048576) (i01 : IntsAt w a01 c01 x01) (l01 : x01.length ≤ 1048576) (i02 : IntsAt w a02 c02 x02) (l02 : x02.length ≤ 1048576) (i03 : IntsAt w a03 c03 x03) (l03 : x03.length ≤ 1048576) (i10 : IntsAt w a10 c10 x10) (l10 : x10.length ≤ 1048576) (i11 : IntsAt w a11 c11 x11) (l11 : x11.length ≤ 1048576) (i12 : IntsAt w a12 c12 x12) (l12 : x12.length ≤ 1048576) (i13 : IntsAt w a13 c13 x13) (l13 : x13.length ≤ 1048576) : Calls Try.prog 84 #[.agg #[.bool n0, .slice a00 x00.length c00, .slice a01 x01.length c01, .bool m0, .slice a02 x02.length c02, .slice a03 x03.length c03], .agg #[.bool n1, .slice a10 x10.length c10, .slice a11 x11.length c11, .bool m1, .slice a12 x12.length c12, .slice a13 x13.length c13]] w (PtRetS w (middlePT (pt n0 x00 x01 m0 x02 x03) (pt n1 x10 x11 m1 x12 x13))) :=
  specMiddle_P (pt n0 x00 x01 m0 x02 x03) (pt n1 x10 x11 m1 x12 x13) _ rfl a00 c00 a01 c01 a02 c02 a03 c03 a10 c10 a11 c11 a12 c12 a13 c13 w i00 i01 i02 i03 ⟨⟨l00, l01⟩, ⟨l02, l03⟩⟩ i10 i11 i12 i13 ⟨⟨l10, l11⟩, ⟨l12, l13⟩⟩

end Go.Proofs.Ytlpnhcoaidmiiaa
