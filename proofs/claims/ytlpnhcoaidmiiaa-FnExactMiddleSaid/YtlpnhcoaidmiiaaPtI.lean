/- Points: the program. -/
import Derived.Deep.RegionHeld3
import Derived.Test.YtlpnhcoaidmiiaaRatKLM
import Derived.Test.YtlpnhcoaidmiiaaPt
namespace Go.Proofs.Ytlpnhcoaidmiiaa
set_option linter.unusedVariables false
set_option linter.unusedSimpArgs false
open Go.RowKit

theorem implRatAdd_R (r s T : RA) (hT : addRA r s = T) (a : Option Addr) (ca : Nat) (b : Option Addr) (cb : Nat) (a2 : Option Addr) (ca2 : Nat) (b2 : Option Addr) (cb2 : Nat) (w : World) (i1 : IntsAt w a ca r.num) (i2 : IntsAt w b cb r.den) (hr : LenRA r) (i3 : IntsAt w a2 ca2 s.num) (i4 : IntsAt w b2 cb2 s.den) (hs : LenRA s) :
    Calls Try.prog 71 #[.agg #[.bool r.neg, .slice a r.num.length ca, .slice b r.den.length cb], .agg #[.bool s.neg, .slice a2 s.num.length ca2, .slice b2 s.den.length cb2]] w (RatRet w T) := by
  subst hT
  exact implRatAdd_any r.neg a ca r.num b cb r.den s.neg a2 ca2 s.num b2 cb2 s.den w i1 hr.1 i2 hr.2 i3 hs.1 i4 hs.2

theorem implRatSub_R (r s T : RA) (hT : subRA r s = T) (a : Option Addr) (ca : Nat) (b : Option Addr) (cb : Nat) (a2 : Option Addr) (ca2 : Nat) (b2 : Option Addr) (cb2 : Nat) (w : World) (i1 : IntsAt w a ca r.num) (i2 : IntsAt w b cb r.den) (hr : LenRA r) (i3 : IntsAt w a2 ca2 s.num) (i4 : IntsAt w b2 cb2 s.den) (hs : LenRA s) :
    Calls Try.prog 73 #[.agg #[.bool r.neg, .slice a r.num.length ca, .slice b r.den.length cb], .agg #[.bool s.neg, .slice a2 s.num.length ca2, .slice b2 s.den.length cb2]] w (RatRet w T) := by
  subst hT
  exact implRatSub_any r.neg a ca r.num b cb r.den s.neg a2 ca2 s.num b2 cb2 s.den w i1 hr.1 i2 hr.2 i3 hs.1 i4 hs.2

theorem implRatMul_R (r s T : RA) (hT : mulRA r s = T) (a : Option Addr) (ca : Nat) (b : Option Addr) (cb : Nat) (a2 : Option Addr) (ca2 : Nat) (b2 : Option Addr) (cb2 : Nat) (w : World) (i1 : IntsAt w a ca r.num) (i2 : IntsAt w b cb r.den) (hr : LenRA r) (i3 : IntsAt w a2 ca2 s.num) (i4 : IntsAt w b2 cb2 s.den) (hs : LenRA s) :
    Calls Try.prog 61 #[.agg #[.bool r.neg, .slice a r.num.length ca, .slice b r.den.length cb], .agg #[.bool s.neg, .slice a2 s.num.length ca2, .slice b2 s.den.length cb2]] w (RatRet w T) := by
  subst hT
  exact implRatMul_any r.neg a ca r.num b cb r.den s.neg a2 ca2 s.num b2 cb2 s.den w i1 hr.1 i2 hr.2 i3 hs.1 i4 hs.2

theorem implRatOf12 (T : RA) (hT : ratOfP 1 2 = T) (w : World) : Calls Try.prog 47 #[.int .i64 1, .int .i64 2] w (RatRet w T) := by
  subst hT
  exact implRatOf_any 1 2 w (by unfold In64; omega) (by unfold In64; omega)

theorem isRat_any (n : Bool) (a : Option Addr) (ca k : Nat) (b : Option Addr) (cb : Nat) (ds : List Int) (w : World) : Calls Try.prog 140 #[.agg #[.bool n, .slice a k ca, .slice b ds.length cb]] w fun e w' => e = .returned (.bool (decide (0 < ds.length))) ∧ Below w.heap.size w w' := by
  go_enter Try.func140, Try.ntmps140
  go_wp2
  go_ret
  exact ⟨ret_bool (by simp), ba1 _ _⟩
section
variable (r s : RA) (a : Option Addr) (ca : Nat) (b : Option Addr) (cb : Nat) (a2 : Option Addr) (ca2 : Nat) (b2 : Option Addr) (cb2 : Nat) (w : World)
set_option maxHeartbeats 2000000 in
theorem ifPoint_P (T : PT) (hT : validPT r s = T) (hr : RaOr r) (hs : RaOr s) (lo hi : Nat) (h : Four w lo hi (.slice a r.num.length ca) (.slice b r.den.length cb) (.slice a2 s.num.length ca2) (.slice b2 s.den.length cb2) r.num r.den s.num s.den) (hh : hi ≤ w.heap.size) : Calls Try.prog 111 #[.agg #[.bool r.neg, .slice a r.num.length ca, .slice b r.den.length cb, .bool s.neg, .slice a2 s.num.length ca2, .slice b2 s.den.length cb2]] w fun e w' => ∃ p c p2 c2 p3 c3 p4 c4, e = .returned (.agg #[.bool T.x.neg, .slice p T.x.num.length c, .slice p2 T.x.den.length c2, .bool T.y.neg, .slice p3 T.y.num.length c3, .slice p4 T.y.den.length c4]) ∧ Four w' lo w'.heap.size (.slice p T.x.num.length c) (.slice p2 T.x.den.length c2) (.slice p3 T.y.num.length c3) (.slice p4 T.y.den.length c4) T.x.num T.x.den T.y.num T.y.den ∧ Below w.heap.size w w' := by
  have hlo : lo ≤ hi := by obtain ⟨m, e1, e2, _⟩ := h; omega
  have F := Lib.hid h
  clear h
  have HD1 : Hid (∀ W, Calls Try.prog 140 #[.agg #[.bool r.neg, .slice a r.num.length ca, .slice b r.den.length cb]] W fun e w' => e = .returned (.bool (okRA r)) ∧ Below W.heap.size W w') := fun W => hr.den ▸ isRat_any r.neg a ca r.num.length b cb r.den W
  have HD2 : Hid (∀ W, Calls Try.prog 140 #[.agg #[.bool s.neg, .slice a2 s.num.length ca2, .slice b2 s.den.length cb2]] W fun e w' => e = .returned (.bool (okRA s)) ∧ Below W.heap.size W w') := fun W => hs.den ▸ isRat_any s.neg a2 ca2 s.num.length b2 cb2 s.den W
  by_cases h1 : okRA r = true
  · by_cases h2 : okRA s = true
    · have e : T = ⟨r, s⟩ := by rw [← hT]; exact validPT_yes h1 h2
      subst e
      clear hT
      go_enter Try.func111, Try.ntmps111
      go_wp2_with fail
      refine (HD1.out _).mono ?_
      rintro e W1 ⟨rfl, b1⟩
      have Rx := bx2_0 b1
      have Rr := bx2_1 b1
      have B := Lib.hid (bstep (ba2 _ _ _) b1)
      have sb1 := b1.size
      try simp at sb1
      have Yx0 := Rx.cell 0 rfl
      have Yx1 := Rx.cell 1 rfl
      have Yx2 := Rx.cell 2 rfl
      have Yx3 := Rx.cell 3 rfl
      have Yx4 := Rx.cell 4 rfl
      have Yx5 := Rx.cell 5 rfl
      have Lx := Rx.lt
      have Yr0 := Rr.cell 0 rfl
      have Yr1 := Rr.cell 1 rfl
      have Yr2 := Rr.cell 2 rfl
      have Yr3 := Rr.cell 3 rfl
      have Yr4 := Rr.cell 4 rfl
      have Yr5 := Rr.cell 5 rfl
      have Lr := Rr.lt
      have Fr0 := Rr.frozen 0
      have Fr1 := Rr.frozen 1
      have Fr2 := Rr.frozen 2
      have Fr3 := Rr.frozen 3
      have Fr4 := Rr.frozen 4
      have Fr5 := Rr.frozen 5
      clear b1
      go_wp2_with fail
      refine (HD2.out _).mono ?_
      rintro e W2 ⟨rfl, b2⟩
      clear Yx0 Yx1 Yx2 Yx3 Yx4 Yx5 Lx Yr0 Yr1 Yr2 Yr3 Yr4 Yr5 Lr Fr0 Fr1 Fr2 Fr3 Fr4 Fr5
      have Rx := box_step Rx b2
      have Rr := box_step Rr b2
      have B := Lib.hid (bstep B.out b2)
      have sb2 := b2.size
      have Yx0 := Rx.cell 0 rfl
      have Yx1 := Rx.cell 1 rfl
      have Yx2 := Rx.cell 2 rfl
      have Yx3 := Rx.cell 3 rfl
      have Yx4 := Rx.cell 4 rfl
      have Yx5 := Rx.cell 5 rfl
      have Lx := Rx.lt
      have Yr0 := Rr.cell 0 rfl
      have Yr1 := Rr.cell 1 rfl
      have Yr2 := Rr.cell 2 rfl
      have Yr3 := Rr.cell 3 rfl
      have Yr4 := Rr.cell 4 rfl
      have Yr5 := Rr.cell 5 rfl
      have Lr := Rr.lt
      have Fr0 := Rr.frozen 0
      have Fr1 := Rr.frozen 1
      have Fr2 := Rr.frozen 2
      have Fr3 := Rr.frozen 3
      have Fr4 := Rr.frozen 4
      have Fr5 := Rr.frozen 5
      clear b2
      go_wp2
      refine bodyPost_ret (v := .agg #[.bool r.neg, .slice a r.num.length ca, .slice b r.den.length cb, .bool s.neg, .slice a2 s.num.length ca2, .slice b2 s.den.length cb2]) (by simp [results, Try.results111, go_sem, Yr0, Yr1, Yr2, Yr3, Yr4, Yr5, Lr]) rfl ⟨a, ca, b, cb, a2, ca2, b2, cb2, rfl, (F.out.below (below6 B.out (by first | omega | (simp; done) | (simp; omega)))).mono (Nat.le_refl _) (by first | omega | (simp; done) | (simp; omega)), below6 B.out (by first | omega | (simp; done) | (simp; omega))⟩
    · have h2' := Bool.eq_false_iff.2 h2
      have e : T = zeroPT := by rw [← hT]; exact validPT_no2 h2'
      subst e
      clear hT h2
      go_enter Try.func111, Try.ntmps111
      go_wp2_with fail
      refine (HD1.out _).mono ?_
      rintro e W3 ⟨rfl, b3⟩
      have Rx := bx2_0 b3
      have Rr := bx2_1 b3
      have B := Lib.hid (bstep (ba2 _ _ _) b3)
      have sb3 := b3.size
      try simp at sb3
      have Yx0 := Rx.cell 0 rfl
      have Yx1 := Rx.cell 1 rfl
      have Yx2 := Rx.cell 2 rfl
      have Yx3 := Rx.cell 3 rfl
      have Yx4 := Rx.cell 4 rfl
      have Yx5 := Rx.cell 5 rfl
      have Lx := Rx.lt
      have Yr0 := Rr.cell 0 rfl
      have Yr1 := Rr.cell 1 rfl
      have Yr2 := Rr.cell 2 rfl
      have Yr3 := Rr.cell 3 rfl
      have Yr4 := Rr.cell 4 rfl
      have Yr5 := Rr.cell 5 rfl
      have Lr := Rr.lt
      have Fr0 := Rr.frozen 0
      have Fr1 := Rr.frozen 1
      have Fr2 := Rr.frozen 2
      have Fr3 := Rr.frozen 3
      have Fr4 := Rr.frozen 4
      have Fr5 := Rr.frozen 5
      clear b3
      go_wp2_with fail
      refine (HD2.out _).mono ?_
      rintro e W4 ⟨rfl, b4⟩
      clear Yx0 Yx1 Yx2 Yx3 Yx4 Yx5 Lx Yr0 Yr1 Yr2 Yr3 Yr4 Yr5 Lr Fr0 Fr1 Fr2 Fr3 Fr4 Fr5
      have Rx := box_step Rx b4
      have Rr := box_step Rr b4
      have B := Lib.hid (bstep B.out b4)
      have sb4 := b4.size
      have Yx0 := Rx.cell 0 rfl
      have Yx1 := Rx.cell 1 rfl
      have Yx2 := Rx.cell 2 rfl
      have Yx3 := Rx.cell 3 rfl
      have Yx4 := Rx.cell 4 rfl
      have Yx5 := Rx.cell 5 rfl
      have Lx := Rx.lt
      have Yr0 := Rr.cell 0 rfl
      have Yr1 := Rr.cell 1 rfl
      have Yr2 := Rr.cell 2 rfl
      have Yr3 := Rr.cell 3 rfl
      have Yr4 := Rr.cell 4 rfl
      have Yr5 := Rr.cell 5 rfl
      have Lr := Rr.lt
      have Fr0 := Rr.frozen 0
      have Fr1 := Rr.frozen 1
      have Fr2 := Rr.frozen 2
      have Fr3 := Rr.frozen 3
      have Fr4 := Rr.frozen 4
      have Fr5 := Rr.frozen 5
      clear b4
      go_wp2
      refine bodyPost_ret (v := .agg #[.bool false, .slice none 0 0, .slice none 0 0, .bool false, .slice none 0 0, .slice none 0 0]) (by simp [results, Try.results111, go_sem, Yr0, Yr1, Yr2, Yr3, Yr4, Yr5, Lr]) rfl ⟨none, 0, none, 0, none, 0, none, 0, rfl, four_nil _ _ _ (by first | omega | (simp; done) | (simp; omega)), below6 B.out (by first | omega | (simp; done) | (simp; omega))⟩
  · have h1' := Bool.eq_false_iff.2 h1
    have e : T = zeroPT := by rw [← hT]; exact validPT_no1 h1'
    subst e
    clear hT h1
    go_enter Try.func111, Try.ntmps111
    go_wp2_with fail
    refine (HD1.out _).mono ?_
    rintro e W5 ⟨rfl, b5⟩
    have Rx := bx2_0 b5
    have Rr := bx2_1 b5
    have B := Lib.hid (bstep (ba2 _ _ _) b5)
    have sb5 := b5.size
    try simp at sb5
    have Yx0 := Rx.cell 0 rfl
    have Yx1 := Rx.cell 1 rfl
    have Yx2 := Rx.cell 2 rfl
    have Yx3 := Rx.cell 3 rfl
    have Yx4 := Rx.cell 4 rfl
    have Yx5 := Rx.cell 5 rfl
    have Lx := Rx.lt
    have Yr0 := Rr.cell 0 rfl
    have Yr1 := Rr.cell 1 rfl
    have Yr2 := Rr.cell 2 rfl
    have Yr3 := Rr.cell 3 rfl
    have Yr4 := Rr.cell 4 rfl
    have Yr5 := Rr.cell 5 rfl
    have Lr := Rr.lt
    have Fr0 := Rr.frozen 0
    have Fr1 := Rr.frozen 1
    have Fr2 := Rr.frozen 2
    have Fr3 := Rr.frozen 3
    have Fr4 := Rr.frozen 4
    have Fr5 := Rr.frozen 5
    clear b5
    go_wp2
    refine bodyPost_ret (v := .agg #[.bool false, .slice none 0 0, .slice none 0 0, .bool false, .slice none 0 0, .slice none 0 0]) (by simp [results, Try.results111, go_sem, Yr0, Yr1, Yr2, Yr3, Yr4, Yr5, Lr]) rfl ⟨none, 0, none, 0, none, 0, none, 0, rfl, four_nil _ _ _ (by first | omega | (simp; done) | (simp; omega)), below6 B.out (by first | omega | (simp; done) | (simp; omega))⟩
end

set_option maxHeartbeats 2000000 in
theorem implIsValidPoint_any (n : Bool) (a : Option Addr) (ca : Nat) (xs : List Int) (b : Option Addr) (cb : Nat) (ds : List Int) (m : Bool) (a2 : Option Addr) (ca2 : Nat) (ys : List Int) (b2 : Option Addr) (cb2 : Nat) (es : List Int) (w : World) (ha : IntsAt w a ca xs) (hn : xs.length ≤ 1048576) (hb : IntsAt w b cb ds) (hm : ds.length ≤ 1048576) (ha2 : IntsAt w a2 ca2 ys) (hn2 : ys.length ≤ 1048576) (hb2 : IntsAt w b2 cb2 es) (hm2 : es.length ≤ 1048576) : Calls Try.prog 45 #[.agg #[.bool n, .slice a xs.length ca, .slice b ds.length cb, .bool m, .slice a2 ys.length ca2, .slice b2 es.length cb2]] w fun e w' => e = .returned (.bool (ratOkB n xs ds && ratOkB m ys es)) ∧ Below w.heap.size w w' := by
  obtain ⟨v, hv⟩ : ∃ v, (ratOkB n xs ds && ratOkB m ys es) = v := ⟨_, rfl⟩
  have HV := Lib.hid hv
  have HA := Lib.hid ha
  have HB := Lib.hid hb
  have HA2 := Lib.hid ha2
  have HB2 := Lib.hid hb2
  rw [hv]
  clear ha hb ha2 hb2 hv
  go_enter Try.func45, Try.ntmps45
  go_wp2_with fail
  refine (areRats_any n a ca xs b cb ds m a2 ca2 ys b2 cb2 es _ (HA.out.below (bstep (ba1 _ _) (bstep (Below.refl _ _) (ba1 _ _)))) hn (HB.out.below (bstep (ba1 _ _) (bstep (Below.refl _ _) (ba1 _ _)))) hm (HA2.out.below (bstep (ba1 _ _) (bstep (Below.refl _ _) (ba1 _ _)))) hn2 (HB2.out.below (bstep (ba1 _ _) (bstep (Below.refl _ _) (ba1 _ _)))) hm2 (w.heap.size + 1) (bx2_1 (Below.refl _ _)) v HV.out).mono ?_
  rintro e W6 ⟨rfl, b6⟩
  replace b6 := bstep (bstep (Below.refl _ _) (ba1 _ _)) b6
  have Rx := bx1_0 b6
  have B := Lib.hid (bstep (ba1 _ _) b6)
  have sb6 := b6.size
  try simp at sb6
  have Yx0 := Rx.cell 0 rfl
  have Yx1 := Rx.cell 1 rfl
  have Yx2 := Rx.cell 2 rfl
  have Yx3 := Rx.cell 3 rfl
  have Yx4 := Rx.cell 4 rfl
  have Yx5 := Rx.cell 5 rfl
  have Lx := Rx.lt
  clear b6
  go_wp2
  go_ret
  exact ⟨rfl, B.out⟩

set_option maxHeartbeats 2000000 in
theorem implPointAt_any (x y : Int) (w : World) (hx : In64 x) (hy : In64 y) : Calls Try.prog 32 #[.int .i64 x, .int .i64 y] w (PtRet w ⟨ratIntP x, ratIntP y⟩) := by
  have HX := Lib.hid hx
  have HY := Lib.hid hy
  clear hx hy
  go_enter Try.func32, Try.ntmps32
  go_wp2_with fail
  refine (implRatFromInt_any x _ HX.out).mono ?_
  rintro e W7 ⟨sp0, sd0, sp1, sd1, rfl, hO1, b7⟩
  have Rr := bx1_0 b7
  have B := Lib.hid (bstep (ba1 _ _) b7)
  have sb7 := b7.size
  try simp at sb7
  have O1 := Lib.hid hO1
  clear hO1
  have Yr0 := Rr.cell 0 rfl
  have Yr1 := Rr.cell 1 rfl
  have Yr2 := Rr.cell 2 rfl
  have Yr3 := Rr.cell 3 rfl
  have Yr4 := Rr.cell 4 rfl
  have Yr5 := Rr.cell 5 rfl
  have Lr := Rr.lt
  have Fr0 := Rr.frozen 0
  have Fr1 := Rr.frozen 1
  have Fr2 := Rr.frozen 2
  have Fr3 := Rr.frozen 3
  have Fr4 := Rr.frozen 4
  have Fr5 := Rr.frozen 5
  clear b7
  go_wp2_with fail
  refine (implRatFromInt_any y _ HY.out).mono ?_
  rintro e W8 ⟨sp2, sd2, sp3, sd3, rfl, hO2, b8⟩
  clear Yr0 Yr1 Yr2 Yr3 Yr4 Yr5 Lr Fr0 Fr1 Fr2 Fr3 Fr4 Fr5
  have Rr := box_step Rr b8
  have B := Lib.hid (bstep B.out b8)
  have O1 := Lib.hid (O1.out.below b8)
  have sb8 := b8.size
  have O2 := Lib.hid hO2
  clear hO2
  have Yr0 := Rr.cell 0 rfl
  have Yr1 := Rr.cell 1 rfl
  have Yr2 := Rr.cell 2 rfl
  have Yr3 := Rr.cell 3 rfl
  have Yr4 := Rr.cell 4 rfl
  have Yr5 := Rr.cell 5 rfl
  have Lr := Rr.lt
  have Fr0 := Rr.frozen 0
  have Fr1 := Rr.frozen 1
  have Fr2 := Rr.frozen 2
  have Fr3 := Rr.frozen 3
  have Fr4 := Rr.frozen 4
  have Fr5 := Rr.frozen 5
  clear b8
  go_wp2
  refine bodyPost_ret (v := .agg #[.bool (ratIntP x).neg, .slice sp0 (ratIntP x).num.length sd0, .slice sp1 (ratIntP x).den.length sd1, .bool (ratIntP y).neg, .slice sp2 (ratIntP y).num.length sd2, .slice sp3 (ratIntP y).den.length sd3]) (by simp [results, Try.results32, go_sem, Yr0, Yr1, Yr2, Yr3, Yr4, Yr5, Lr]) rfl ⟨sp0, sd0, sp1, sd1, sp2, sd2, sp3, sd3, rfl, point_endR (by first | omega | (simp; done) | (simp; omega)) (by first | omega | (simp; done) | (simp; omega)) (Four.of O1.out O2.out (Nat.le_refl _) (by first | omega | (simp; done) | (simp; omega)) (Nat.le_refl _) (by first | omega | (simp; done) | (simp; omega)) (by first | omega | (simp; done) | (simp; omega))) (by first | omega | (simp; done) | (simp; omega)) B.out⟩
set_option maxHeartbeats 2000000 in
theorem implHalfPoint_any (x y : Int) (w : World) (hx : In64 x) (hy : In64 y) : Calls Try.prog 55 #[.int .i64 x, .int .i64 y] w (PtRet w ⟨ratOfP x 2, ratOfP y 2⟩) := by
  have HX := Lib.hid hx
  have HY := Lib.hid hy
  have K := Lib.hid (show In64 2 by unfold In64; omega)
  have HT : Hid (validPT (ratOfP x 2) (ratOfP y 2) = ⟨ratOfP x 2, ratOfP y 2⟩) := validPT_yes (ratOf_ok hx (by omega) (by omega)) (ratOf_ok hy (by omega) (by omega))
  clear hx hy
  go_enter Try.func55, Try.ntmps55
  go_wp2_with fail
  refine (implRatOf_any x 2 _ HX.out K.out).mono ?_
  rintro e W9 ⟨sp0, sd0, sp1, sd1, rfl, hO1, b9⟩
  have Rr := bx1_0 b9
  have B := Lib.hid (bstep (ba1 _ _) b9)
  have sb9 := b9.size
  try simp at sb9
  have O1 := Lib.hid hO1
  clear hO1
  have Yr0 := Rr.cell 0 rfl
  have Yr1 := Rr.cell 1 rfl
  have Yr2 := Rr.cell 2 rfl
  have Yr3 := Rr.cell 3 rfl
  have Yr4 := Rr.cell 4 rfl
  have Yr5 := Rr.cell 5 rfl
  have Lr := Rr.lt
  have Fr0 := Rr.frozen 0
  have Fr1 := Rr.frozen 1
  have Fr2 := Rr.frozen 2
  have Fr3 := Rr.frozen 3
  have Fr4 := Rr.frozen 4
  have Fr5 := Rr.frozen 5
  clear b9
  go_wp2_with fail
  refine (implRatOf_any y 2 _ HY.out K.out).mono ?_
  rintro e W10 ⟨sp2, sd2, sp3, sd3, rfl, hO2, b10⟩
  clear Yr0 Yr1 Yr2 Yr3 Yr4 Yr5 Lr Fr0 Fr1 Fr2 Fr3 Fr4 Fr5
  have Rr := box_step Rr b10
  have B := Lib.hid (bstep B.out b10)
  have O1 := Lib.hid (O1.out.below b10)
  have sb10 := b10.size
  have O2 := Lib.hid hO2
  clear hO2
  have Yr0 := Rr.cell 0 rfl
  have Yr1 := Rr.cell 1 rfl
  have Yr2 := Rr.cell 2 rfl
  have Yr3 := Rr.cell 3 rfl
  have Yr4 := Rr.cell 4 rfl
  have Yr5 := Rr.cell 5 rfl
  have Lr := Rr.lt
  have Fr0 := Rr.frozen 0
  have Fr1 := Rr.frozen 1
  have Fr2 := Rr.frozen 2
  have Fr3 := Rr.frozen 3
  have Fr4 := Rr.frozen 4
  have Fr5 := Rr.frozen 5
  clear b10
  go_wp2_with fail
  refine (ifPoint_P (ratOfP x 2) (ratOfP y 2) sp0 sd0 sp1 sd1 sp2 sd2 sp3 sd3 _ _ HT.out (raOr_of x 2) (raOr_of y 2) _ _ (Four.of O1.out O2.out (Nat.le_refl _) (by first | omega | (simp; done) | (simp; omega)) (Nat.le_refl _) (by first | omega | (simp; done) | (simp; omega)) (by first | omega | (simp; done) | (simp; omega))) (Nat.le_refl _)).mono ?_
  rintro e W11 ⟨t0, g0, t1, g1, t2, g2, t3, g3, rfl, hO, b11⟩
  clear Yr0 Yr1 Yr2 Yr3 Yr4 Yr5 Lr Fr0 Fr1 Fr2 Fr3 Fr4 Fr5
  have Rr := box_step Rr b11
  have B := Lib.hid (bstep B.out b11)
  have O1 := Lib.hid (O1.out.below b11)
  have O2 := Lib.hid (O2.out.below b11)
  have sb11 := b11.size
  have O := Lib.hid hO
  clear hO
  have Yr0 := Rr.cell 0 rfl
  have Yr1 := Rr.cell 1 rfl
  have Yr2 := Rr.cell 2 rfl
  have Yr3 := Rr.cell 3 rfl
  have Yr4 := Rr.cell 4 rfl
  have Yr5 := Rr.cell 5 rfl
  have Lr := Rr.lt
  have Fr0 := Rr.frozen 0
  have Fr1 := Rr.frozen 1
  have Fr2 := Rr.frozen 2
  have Fr3 := Rr.frozen 3
  have Fr4 := Rr.frozen 4
  have Fr5 := Rr.frozen 5
  clear b11
  go_wp2
  refine bodyPost_ret (v := .agg #[.bool (ratOfP x 2).neg, .slice t0 (ratOfP x 2).num.length g0, .slice t1 (ratOfP x 2).den.length g1, .bool (ratOfP y 2).neg, .slice t2 (ratOfP y 2).num.length g2, .slice t3 (ratOfP y 2).den.length g3]) (by simp [results, Try.results55, go_sem, Yr0, Yr1, Yr2, Yr3, Yr4, Yr5, Lr]) rfl ⟨t0, g0, t1, g1, t2, g2, t3, g3, rfl, point_endR (by first | omega | (simp; done) | (simp; omega)) (by first | omega | (simp; done) | (simp; omega)) O.out (by first | omega | (simp; done) | (simp; omega)) B.out⟩

set_option maxRecDepth 100000 in
set_option maxHeartbeats 4000000 in
theorem implAddPoints_P (p : PT) (q : PT) (T : PT) (hT : addPT p q = T) (pa0 : Option Addr) (pc0 : Nat) (pa1 : Option Addr) (pc1 : Nat) (pa2 : Option Addr) (pc2 : Nat) (pa3 : Option Addr) (pc3 : Nat) (qa0 : Option Addr) (qc0 : Nat) (qa1 : Option Addr) (qc1 : Nat) (qa2 : Option Addr) (qc2 : Nat) (qa3 : Option Addr) (qc3 : Nat) (w : World) (pi0 : IntsAt w pa0 pc0 p.x.num) (pi1 : IntsAt w pa1 pc1 p.x.den) (pi2 : IntsAt w pa2 pc2 p.y.num) (pi3 : IntsAt w pa3 pc3 p.y.den) (pl : LenPT p) (qi0 : IntsAt w qa0 qc0 q.x.num) (qi1 : IntsAt w qa1 qc1 q.x.den) (qi2 : IntsAt w qa2 qc2 q.y.num) (qi3 : IntsAt w qa3 qc3 q.y.den) (ql : LenPT q) : Calls Try.prog 79 #[.agg #[.bool p.x.neg, .slice pa0 p.x.num.length pc0, .slice pa1 p.x.den.length pc1, .bool p.y.neg, .slice pa2 p.y.num.length pc2, .slice pa3 p.y.den.length pc3], .agg #[.bool q.x.neg, .slice qa0 q.x.num.length qc0, .slice qa1 q.x.den.length qc1, .bool q.y.neg, .slice qa2 q.y.num.length qc2, .slice qa3 q.y.den.length qc3]] w (PtRet w T) := by
  obtain ⟨R0, h0⟩ : ∃ R, addRA p.x q.x = R := ⟨_, rfl⟩
  have o0 : RaOr R0 := by rw [← h0]; exact raOr_add _ _ _ _ _ _
  have l0 := o0.len'
  have H0 := Lib.hid h0
  obtain ⟨R1, h1⟩ : ∃ R, addRA p.y q.y = R := ⟨_, rfl⟩
  have o1 : RaOr R1 := by rw [← h1]; exact raOr_add _ _ _ _ _ _
  have l1 := o1.len'
  have H1 := Lib.hid h1
  have H2 : Hid (validPT R0 R1 = T) := by unfold Hid; rw [← hT, ← h0, ← h1]; rfl
  clear hT h0 h1
  have pH0 := Lib.hid pi0
  have pH1 := Lib.hid pi1
  have pH2 := Lib.hid pi2
  have pH3 := Lib.hid pi3
  have qH0 := Lib.hid qi0
  have qH1 := Lib.hid qi1
  have qH2 := Lib.hid qi2
  have qH3 := Lib.hid qi3
  clear pi0 pi1 pi2 pi3 qi0 qi1 qi2 qi3
  have BR : Below (((w.alloc (.cells #[.bool p.x.neg, .slice pa0 p.x.num.length pc0, .slice pa1 p.x.den.length pc1, .bool p.y.neg, .slice pa2 p.y.num.length pc2, .slice pa3 p.y.den.length pc3] 32)).alloc (.cells #[.bool q.x.neg, .slice qa0 q.x.num.length qc0, .slice qa1 q.x.den.length qc1, .bool q.y.neg, .slice qa2 q.y.num.length qc2, .slice qa3 q.y.den.length qc3] 32)).alloc (.cells #[.bool false, .slice none 0 0, .slice none 0 0, .bool false, .slice none 0 0, .slice none 0 0] 32)).heap.size (((w.alloc (.cells #[.bool p.x.neg, .slice pa0 p.x.num.length pc0, .slice pa1 p.x.den.length pc1, .bool p.y.neg, .slice pa2 p.y.num.length pc2, .slice pa3 p.y.den.length pc3] 32)).alloc (.cells #[.bool q.x.neg, .slice qa0 q.x.num.length qc0, .slice qa1 q.x.den.length qc1, .bool q.y.neg, .slice qa2 q.y.num.length qc2, .slice qa3 q.y.den.length qc3] 32)).alloc (.cells #[.bool false, .slice none 0 0, .slice none 0 0, .bool false, .slice none 0 0, .slice none 0 0] 32)) (((w.alloc (.cells #[.bool p.x.neg, .slice pa0 p.x.num.length pc0, .slice pa1 p.x.den.length pc1, .bool p.y.neg, .slice pa2 p.y.num.length pc2, .slice pa3 p.y.den.length pc3] 32)).alloc (.cells #[.bool q.x.neg, .slice qa0 q.x.num.length qc0, .slice qa1 q.x.den.length qc1, .bool q.y.neg, .slice qa2 q.y.num.length qc2, .slice qa3 q.y.den.length qc3] 32)).alloc (.cells #[.bool false, .slice none 0 0, .slice none 0 0, .bool false, .slice none 0 0, .slice none 0 0] 32)) := Below.refl _ _
  have Rx := bx3_0 BR
  have Ry := bx3_1 BR
  have Rr := bx3_2 BR
  have B : Hid (Below w.heap.size w (((w.alloc (.cells #[.bool p.x.neg, .slice pa0 p.x.num.length pc0, .slice pa1 p.x.den.length pc1, .bool p.y.neg, .slice pa2 p.y.num.length pc2, .slice pa3 p.y.den.length pc3] 32)).alloc (.cells #[.bool q.x.neg, .slice qa0 q.x.num.length qc0, .slice qa1 q.x.den.length qc1, .bool q.y.neg, .slice qa2 q.y.num.length qc2, .slice qa3 q.y.den.length qc3] 32)).alloc (.cells #[.bool false, .slice none 0 0, .slice none 0 0, .bool false, .slice none 0 0, .slice none 0 0] 32))) := Lib.hid (ba3 _ _ _ _)
  have Yx0 := Rx.c0
  have Yx1 := Rx.c1
  have Yx2 := Rx.c2
  have Yx3 := Rx.c3
  have Yx4 := Rx.c4
  have Yx5 := Rx.c5
  have Yy0 := Ry.c0
  have Yy1 := Ry.c1
  have Yy2 := Ry.c2
  have Yy3 := Ry.c3
  have Yy4 := Ry.c4
  have Yy5 := Ry.c5
  have Yr0 := Rr.c0
  have Yr1 := Rr.c1
  have Yr2 := Rr.c2
  have Yr3 := Rr.c3
  have Yr4 := Rr.c4
  have Yr5 := Rr.c5
  clear BR
  go_enter Try.func79, Try.ntmps79
  have tok12 : True := trivial
  have tok13 : True := trivial
  go_wp2_with fail
  go_region_held3 (fun w' => w'.cell? ⟨w.heap.size, 0, none⟩ = some (.bool p.x.neg) ∧ w'.cell? ⟨w.heap.size, 1, none⟩ = some (.slice pa0 p.x.num.length pc0) ∧ w'.cell? ⟨w.heap.size, 2, none⟩ = some (.slice pa1 p.x.den.length pc1) ∧ w'.cell? ⟨w.heap.size, 3, none⟩ = some (.bool p.y.neg) ∧ w'.cell? ⟨w.heap.size, 4, none⟩ = some (.slice pa2 p.y.num.length pc2) ∧ w'.cell? ⟨w.heap.size, 5, none⟩ = some (.slice pa3 p.y.den.length pc3) ∧ w'.cell? ⟨w.heap.size + 1, 0, none⟩ = some (.bool q.x.neg) ∧ w'.cell? ⟨w.heap.size + 1, 1, none⟩ = some (.slice qa0 q.x.num.length qc0) ∧ w'.cell? ⟨w.heap.size + 1, 2, none⟩ = some (.slice qa1 q.x.den.length qc1) ∧ w'.cell? ⟨w.heap.size + 1, 3, none⟩ = some (.bool q.y.neg) ∧ w'.cell? ⟨w.heap.size + 1, 4, none⟩ = some (.slice qa2 q.y.num.length qc2) ∧ w'.cell? ⟨w.heap.size + 1, 5, none⟩ = some (.slice qa3 q.y.den.length qc3))
    ((refine ⟨?_, ?_, ?_, ?_, ?_, ?_, ?_, ?_, ?_, ?_, ?_, ?_⟩ <;> (repeat first | with_reducible assumption | with_reducible refine cell_low ?_ (by first | (simp; done) | (simp; omega) | omega) | with_reducible refine cell_step ?_ b12 | with_reducible refine cell_step ?_ b13 | with_reducible refine cell_step ?_ b14 | with_reducible refine cell_dr ?_)))
    (first | (go_at_call 71; clear tok12; refine (implRatAdd_R p.x q.x R0 H0.out pa0 pc0 pa1 pc1 qa0 qc0 qa1 qc1 _ (pH0.out.below (B.out.drew)) (pH1.out.below (B.out.drew)) pl.x (qH0.out.below (B.out.drew)) (qH1.out.below (B.out.drew)) ql.x).mono ?_; rintro e W12 ⟨s0p0, s0d0, s0p1, s0d1, rfl, hO0, b12⟩; have s12 := b12.size; (try simp at s12)) | (go_at_call 71; clear tok13; refine (implRatAdd_R p.y q.y R1 H1.out pa2 pc2 pa3 pc3 qa2 qc2 qa3 qc3 _ (pH2.out.below (bstepD B.out b12)) (pH3.out.below (bstepD B.out b12)) pl.y (qH2.out.below (bstepD B.out b12)) (qH3.out.below (bstepD B.out b12)) ql.y).mono ?_; rintro e W13 ⟨s1p0, s1d0, s1p1, s1d1, rfl, hO1, b13⟩; have s13 := b13.size; (try simp at s13)) | (go_at_call 111; refine (ifPoint_P R0 R1 s0p0 s0d0 s0p1 s0d1 s1p0 s1d0 s1p1 s1d1 _ T H2.out o0 o1 _ _ (Four.of (hO0.below b13) hO1 (Nat.le_refl _) (by first | omega | (simp; done) | (simp; omega)) (Nat.le_refl _) (by first | omega | (simp; done) | (simp; omega)) (by first | omega | (simp; done) | (simp; omega))) (Nat.le_refl _)).mono ?_; rintro e W14 ⟨s2p0, s2d0, s2p1, s2d1, s2p2, s2d2, s2p3, s2d3, rfl, hO2, b14⟩; have s14 := b14.size; (try simp at s14); have Rr := (box_step (box_step (box_step (box_drew Rr) b12) b13) b14); have Yr0 := Rr.cell 0 rfl; have Fr0 := Rr.frozen 0; have Yr1 := Rr.cell 1 rfl; have Fr1 := Rr.frozen 1; have Yr2 := Rr.cell 2 rfl; have Fr2 := Rr.frozen 2; have Yr3 := Rr.cell 3 rfl; have Fr3 := Rr.frozen 3; have Yr4 := Rr.cell 4 rfl; have Fr4 := Rr.frozen 4; have Yr5 := Rr.cell 5 rfl; have Fr5 := Rr.frozen 5; have Lr := Rr.lt))
  have sb12 := b12.size
  try simp at sb12
  have sb13 := b13.size
  have sb14 := b14.size
  have O0 := Lib.hid (((hO0.below b13).below b14))
  clear hO0
  have O1 := Lib.hid ((hO1.below b14))
  clear hO1
  have O2 := Lib.hid (hO2)
  clear hO2
  have B := Lib.hid (bstep (bstep (bstepD B.out b12) b13) b14)
  clear b12 b13 b14
  go_wp2
  refine bodyPost_ret (v := .agg #[.bool T.x.neg, .slice s2p0 T.x.num.length s2d0, .slice s2p1 T.x.den.length s2d1, .bool T.y.neg, .slice s2p2 T.y.num.length s2d2, .slice s2p3 T.y.den.length s2d3]) (by simp [results, Try.results79, go_sem, Yr0, Yr1, Yr2, Yr3, Yr4, Yr5, Lr]) rfl ⟨s2p0, s2d0, s2p1, s2d1, s2p2, s2d2, s2p3, s2d3, rfl, point_endR (by first | omega | (simp; done) | (simp; omega)) (by first | omega | (simp; done) | (simp; omega)) O2.out (by first | omega | (simp; done) | (simp; omega)) B.out⟩

set_option maxRecDepth 100000 in
set_option maxHeartbeats 4000000 in
theorem implSubtractPoints_P (p : PT) (q : PT) (T : PT) (hT : subPT p q = T) (pa0 : Option Addr) (pc0 : Nat) (pa1 : Option Addr) (pc1 : Nat) (pa2 : Option Addr) (pc2 : Nat) (pa3 : Option Addr) (pc3 : Nat) (qa0 : Option Addr) (qc0 : Nat) (qa1 : Option Addr) (qc1 : Nat) (qa2 : Option Addr) (qc2 : Nat) (qa3 : Option Addr) (qc3 : Nat) (w : World) (pi0 : IntsAt w pa0 pc0 p.x.num) (pi1 : IntsAt w pa1 pc1 p.x.den) (pi2 : IntsAt w pa2 pc2 p.y.num) (pi3 : IntsAt w pa3 pc3 p.y.den) (pl : LenPT p) (qi0 : IntsAt w qa0 qc0 q.x.num) (qi1 : IntsAt w qa1 qc1 q.x.den) (qi2 : IntsAt w qa2 qc2 q.y.num) (qi3 : IntsAt w qa3 qc3 q.y.den) (ql : LenPT q) : Calls Try.prog 81 #[.agg #[.bool p.x.neg, .slice pa0 p.x.num.length pc0, .slice pa1 p.x.den.length pc1, .bool p.y.neg, .slice pa2 p.y.num.length pc2, .slice pa3 p.y.den.length pc3], .agg #[.bool q.x.neg, .slice qa0 q.x.num.length qc0, .slice qa1 q.x.den.length qc1, .bool q.y.neg, .slice qa2 q.y.num.length qc2, .slice qa3 q.y.den.length qc3]] w (PtRet w T) := by
  obtain ⟨R0, h0⟩ : ∃ R, subRA p.x q.x = R := ⟨_, rfl⟩
  have o0 : RaOr R0 := by rw [← h0]; exact raOr_sub _ _ _ _ _ _
  have l0 := o0.len'
  have H0 := Lib.hid h0
  obtain ⟨R1, h1⟩ : ∃ R, subRA p.y q.y = R := ⟨_, rfl⟩
  have o1 : RaOr R1 := by rw [← h1]; exact raOr_sub _ _ _ _ _ _
  have l1 := o1.len'
  have H1 := Lib.hid h1
  have H2 : Hid (validPT R0 R1 = T) := by unfold Hid; rw [← hT, ← h0, ← h1]; rfl
  clear hT h0 h1
  have pH0 := Lib.hid pi0
  have pH1 := Lib.hid pi1
  have pH2 := Lib.hid pi2
  have pH3 := Lib.hid pi3
  have qH0 := Lib.hid qi0
  have qH1 := Lib.hid qi1
  have qH2 := Lib.hid qi2
  have qH3 := Lib.hid qi3
  clear pi0 pi1 pi2 pi3 qi0 qi1 qi2 qi3
  have BR : Below (((w.alloc (.cells #[.bool p.x.neg, .slice pa0 p.x.num.length pc0, .slice pa1 p.x.den.length pc1, .bool p.y.neg, .slice pa2 p.y.num.length pc2, .slice pa3 p.y.den.length pc3] 32)).alloc (.cells #[.bool q.x.neg, .slice qa0 q.x.num.length qc0, .slice qa1 q.x.den.length qc1, .bool q.y.neg, .slice qa2 q.y.num.length qc2, .slice qa3 q.y.den.length qc3] 32)).alloc (.cells #[.bool false, .slice none 0 0, .slice none 0 0, .bool false, .slice none 0 0, .slice none 0 0] 32)).heap.size (((w.alloc (.cells #[.bool p.x.neg, .slice pa0 p.x.num.length pc0, .slice pa1 p.x.den.length pc1, .bool p.y.neg, .slice pa2 p.y.num.length pc2, .slice pa3 p.y.den.length pc3] 32)).alloc (.cells #[.bool q.x.neg, .slice qa0 q.x.num.length qc0, .slice qa1 q.x.den.length qc1, .bool q.y.neg, .slice qa2 q.y.num.length qc2, .slice qa3 q.y.den.length qc3] 32)).alloc (.cells #[.bool false, .slice none 0 0, .slice none 0 0, .bool false, .slice none 0 0, .slice none 0 0] 32)) (((w.alloc (.cells #[.bool p.x.neg, .slice pa0 p.x.num.length pc0, .slice pa1 p.x.den.length pc1, .bool p.y.neg, .slice pa2 p.y.num.length pc2, .slice pa3 p.y.den.length pc3] 32)).alloc (.cells #[.bool q.x.neg, .slice qa0 q.x.num.length qc0, .slice qa1 q.x.den.length qc1, .bool q.y.neg, .slice qa2 q.y.num.length qc2, .slice qa3 q.y.den.length qc3] 32)).alloc (.cells #[.bool false, .slice none 0 0, .slice none 0 0, .bool false, .slice none 0 0, .slice none 0 0] 32)) := Below.refl _ _
  have Rx := bx3_0 BR
  have Ry := bx3_1 BR
  have Rr := bx3_2 BR
  have B : Hid (Below w.heap.size w (((w.alloc (.cells #[.bool p.x.neg, .slice pa0 p.x.num.length pc0, .slice pa1 p.x.den.length pc1, .bool p.y.neg, .slice pa2 p.y.num.length pc2, .slice pa3 p.y.den.length pc3] 32)).alloc (.cells #[.bool q.x.neg, .slice qa0 q.x.num.length qc0, .slice qa1 q.x.den.length qc1, .bool q.y.neg, .slice qa2 q.y.num.length qc2, .slice qa3 q.y.den.length qc3] 32)).alloc (.cells #[.bool false, .slice none 0 0, .slice none 0 0, .bool false, .slice none 0 0, .slice none 0 0] 32))) := Lib.hid (ba3 _ _ _ _)
  have Yx0 := Rx.c0
  have Yx1 := Rx.c1
  have Yx2 := Rx.c2
  have Yx3 := Rx.c3
  have Yx4 := Rx.c4
  have Yx5 := Rx.c5
  have Yy0 := Ry.c0
  have Yy1 := Ry.c1
  have Yy2 := Ry.c2
  have Yy3 := Ry.c3
  have Yy4 := Ry.c4
  have Yy5 := Ry.c5
  have Yr0 := Rr.c0
  have Yr1 := Rr.c1
  have Yr2 := Rr.c2
  have Yr3 := Rr.c3
  have Yr4 := Rr.c4
  have Yr5 := Rr.c5
  clear BR
  go_enter Try.func81, Try.ntmps81
  have tok15 : True := trivial
  have tok16 : True := trivial
  go_wp2_with fail
  go_region_held3 (fun w' => w'.cell? ⟨w.heap.size, 0, none⟩ = some (.bool p.x.neg) ∧ w'.cell? ⟨w.heap.size, 1, none⟩ = some (.slice pa0 p.x.num.length pc0) ∧ w'.cell? ⟨w.heap.size, 2, none⟩ = some (.slice pa1 p.x.den.length pc1) ∧ w'.cell? ⟨w.heap.size, 3, none⟩ = some (.bool p.y.neg) ∧ w'.cell? ⟨w.heap.size, 4, none⟩ = some (.slice pa2 p.y.num.length pc2) ∧ w'.cell? ⟨w.heap.size, 5, none⟩ = some (.slice pa3 p.y.den.length pc3) ∧ w'.cell? ⟨w.heap.size + 1, 0, none⟩ = some (.bool q.x.neg) ∧ w'.cell? ⟨w.heap.size + 1, 1, none⟩ = some (.slice qa0 q.x.num.length qc0) ∧ w'.cell? ⟨w.heap.size + 1, 2, none⟩ = some (.slice qa1 q.x.den.length qc1) ∧ w'.cell? ⟨w.heap.size + 1, 3, none⟩ = some (.bool q.y.neg) ∧ w'.cell? ⟨w.heap.size + 1, 4, none⟩ = some (.slice qa2 q.y.num.length qc2) ∧ w'.cell? ⟨w.heap.size + 1, 5, none⟩ = some (.slice qa3 q.y.den.length qc3))
    ((refine ⟨?_, ?_, ?_, ?_, ?_, ?_, ?_, ?_, ?_, ?_, ?_, ?_⟩ <;> (repeat first | with_reducible assumption | with_reducible refine cell_low ?_ (by first | (simp; done) | (simp; omega) | omega) | with_reducible refine cell_step ?_ b15 | with_reducible refine cell_step ?_ b16 | with_reducible refine cell_step ?_ b17 | with_reducible refine cell_dr ?_)))
    (first | (go_at_call 73; clear tok15; refine (implRatSub_R p.x q.x R0 H0.out pa0 pc0 pa1 pc1 qa0 qc0 qa1 qc1 _ (pH0.out.below (B.out.drew)) (pH1.out.below (B.out.drew)) pl.x (qH0.out.below (B.out.drew)) (qH1.out.below (B.out.drew)) ql.x).mono ?_; rintro e W15 ⟨s0p0, s0d0, s0p1, s0d1, rfl, hO0, b15⟩; have s15 := b15.size; (try simp at s15)) | (go_at_call 73; clear tok16; refine (implRatSub_R p.y q.y R1 H1.out pa2 pc2 pa3 pc3 qa2 qc2 qa3 qc3 _ (pH2.out.below (bstepD B.out b15)) (pH3.out.below (bstepD B.out b15)) pl.y (qH2.out.below (bstepD B.out b15)) (qH3.out.below (bstepD B.out b15)) ql.y).mono ?_; rintro e W16 ⟨s1p0, s1d0, s1p1, s1d1, rfl, hO1, b16⟩; have s16 := b16.size; (try simp at s16)) | (go_at_call 111; refine (ifPoint_P R0 R1 s0p0 s0d0 s0p1 s0d1 s1p0 s1d0 s1p1 s1d1 _ T H2.out o0 o1 _ _ (Four.of (hO0.below b16) hO1 (Nat.le_refl _) (by first | omega | (simp; done) | (simp; omega)) (Nat.le_refl _) (by first | omega | (simp; done) | (simp; omega)) (by first | omega | (simp; done) | (simp; omega))) (Nat.le_refl _)).mono ?_; rintro e W17 ⟨s2p0, s2d0, s2p1, s2d1, s2p2, s2d2, s2p3, s2d3, rfl, hO2, b17⟩; have s17 := b17.size; (try simp at s17); have Rr := (box_step (box_step (box_step (box_drew Rr) b15) b16) b17); have Yr0 := Rr.cell 0 rfl; have Fr0 := Rr.frozen 0; have Yr1 := Rr.cell 1 rfl; have Fr1 := Rr.frozen 1; have Yr2 := Rr.cell 2 rfl; have Fr2 := Rr.frozen 2; have Yr3 := Rr.cell 3 rfl; have Fr3 := Rr.frozen 3; have Yr4 := Rr.cell 4 rfl; have Fr4 := Rr.frozen 4; have Yr5 := Rr.cell 5 rfl; have Fr5 := Rr.frozen 5; have Lr := Rr.lt))
  have sb15 := b15.size
  try simp at sb15
  have sb16 := b16.size
  have sb17 := b17.size
  have O0 := Lib.hid (((hO0.below b16).below b17))
  clear hO0
  have O1 := Lib.hid ((hO1.below b17))
  clear hO1
  have O2 := Lib.hid (hO2)
  clear hO2
  have B := Lib.hid (bstep (bstep (bstepD B.out b15) b16) b17)
  clear b15 b16 b17
  go_wp2
  refine bodyPost_ret (v := .agg #[.bool T.x.neg, .slice s2p0 T.x.num.length s2d0, .slice s2p1 T.x.den.length s2d1, .bool T.y.neg, .slice s2p2 T.y.num.length s2d2, .slice s2p3 T.y.den.length s2d3]) (by simp [results, Try.results81, go_sem, Yr0, Yr1, Yr2, Yr3, Yr4, Yr5, Lr]) rfl ⟨s2p0, s2d0, s2p1, s2d1, s2p2, s2d2, s2p3, s2d3, rfl, point_endR (by first | omega | (simp; done) | (simp; omega)) (by first | omega | (simp; done) | (simp; omega)) O2.out (by first | omega | (simp; done) | (simp; omega)) B.out⟩

set_option maxRecDepth 100000 in
set_option maxHeartbeats 4000000 in
theorem implScalePoint_P (r : RA) (p : PT) (T : PT) (hT : scalePT r p = T) (ra0 : Option Addr) (rc0 : Nat) (ra1 : Option Addr) (rc1 : Nat) (pa0 : Option Addr) (pc0 : Nat) (pa1 : Option Addr) (pc1 : Nat) (pa2 : Option Addr) (pc2 : Nat) (pa3 : Option Addr) (pc3 : Nat) (w : World) (ri0 : IntsAt w ra0 rc0 r.num) (ri1 : IntsAt w ra1 rc1 r.den) (rl : LenRA r) (pi0 : IntsAt w pa0 pc0 p.x.num) (pi1 : IntsAt w pa1 pc1 p.x.den) (pi2 : IntsAt w pa2 pc2 p.y.num) (pi3 : IntsAt w pa3 pc3 p.y.den) (pl : LenPT p) : Calls Try.prog 69 #[.agg #[.bool r.neg, .slice ra0 r.num.length rc0, .slice ra1 r.den.length rc1], .agg #[.bool p.x.neg, .slice pa0 p.x.num.length pc0, .slice pa1 p.x.den.length pc1, .bool p.y.neg, .slice pa2 p.y.num.length pc2, .slice pa3 p.y.den.length pc3]] w (PtRet w T) := by
  obtain ⟨R0, h0⟩ : ∃ R, mulRA r p.x = R := ⟨_, rfl⟩
  have o0 : RaOr R0 := by rw [← h0]; exact raOr_mul _ _ _ _ _ _
  have l0 := o0.len'
  have H0 := Lib.hid h0
  obtain ⟨R1, h1⟩ : ∃ R, mulRA r p.y = R := ⟨_, rfl⟩
  have o1 : RaOr R1 := by rw [← h1]; exact raOr_mul _ _ _ _ _ _
  have l1 := o1.len'
  have H1 := Lib.hid h1
  have H2 : Hid (validPT R0 R1 = T) := by unfold Hid; rw [← hT, ← h0, ← h1]; rfl
  clear hT h0 h1
  have rH0 := Lib.hid ri0
  have rH1 := Lib.hid ri1
  have pH0 := Lib.hid pi0
  have pH1 := Lib.hid pi1
  have pH2 := Lib.hid pi2
  have pH3 := Lib.hid pi3
  clear ri0 ri1 pi0 pi1 pi2 pi3
  have BR : Below (((w.alloc (.cells #[.bool r.neg, .slice ra0 r.num.length rc0, .slice ra1 r.den.length rc1] 26)).alloc (.cells #[.bool p.x.neg, .slice pa0 p.x.num.length pc0, .slice pa1 p.x.den.length pc1, .bool p.y.neg, .slice pa2 p.y.num.length pc2, .slice pa3 p.y.den.length pc3] 32)).alloc (.cells #[.bool false, .slice none 0 0, .slice none 0 0, .bool false, .slice none 0 0, .slice none 0 0] 32)).heap.size (((w.alloc (.cells #[.bool r.neg, .slice ra0 r.num.length rc0, .slice ra1 r.den.length rc1] 26)).alloc (.cells #[.bool p.x.neg, .slice pa0 p.x.num.length pc0, .slice pa1 p.x.den.length pc1, .bool p.y.neg, .slice pa2 p.y.num.length pc2, .slice pa3 p.y.den.length pc3] 32)).alloc (.cells #[.bool false, .slice none 0 0, .slice none 0 0, .bool false, .slice none 0 0, .slice none 0 0] 32)) (((w.alloc (.cells #[.bool r.neg, .slice ra0 r.num.length rc0, .slice ra1 r.den.length rc1] 26)).alloc (.cells #[.bool p.x.neg, .slice pa0 p.x.num.length pc0, .slice pa1 p.x.den.length pc1, .bool p.y.neg, .slice pa2 p.y.num.length pc2, .slice pa3 p.y.den.length pc3] 32)).alloc (.cells #[.bool false, .slice none 0 0, .slice none 0 0, .bool false, .slice none 0 0, .slice none 0 0] 32)) := Below.refl _ _
  have Rx := bx3_0 BR
  have Ry := bx3_1 BR
  have Rr := bx3_2 BR
  have B : Hid (Below w.heap.size w (((w.alloc (.cells #[.bool r.neg, .slice ra0 r.num.length rc0, .slice ra1 r.den.length rc1] 26)).alloc (.cells #[.bool p.x.neg, .slice pa0 p.x.num.length pc0, .slice pa1 p.x.den.length pc1, .bool p.y.neg, .slice pa2 p.y.num.length pc2, .slice pa3 p.y.den.length pc3] 32)).alloc (.cells #[.bool false, .slice none 0 0, .slice none 0 0, .bool false, .slice none 0 0, .slice none 0 0] 32))) := Lib.hid (ba3 _ _ _ _)
  have Yx0 := Rx.c0
  have Yx1 := Rx.c1
  have Yx2 := Rx.c2
  have Yy0 := Ry.c0
  have Yy1 := Ry.c1
  have Yy2 := Ry.c2
  have Yy3 := Ry.c3
  have Yy4 := Ry.c4
  have Yy5 := Ry.c5
  have Yr0 := Rr.c0
  have Yr1 := Rr.c1
  have Yr2 := Rr.c2
  have Yr3 := Rr.c3
  have Yr4 := Rr.c4
  have Yr5 := Rr.c5
  clear BR
  go_enter Try.func69, Try.ntmps69
  have tok18 : True := trivial
  have tok19 : True := trivial
  go_wp2_with fail
  go_region_held3 (fun w' => w'.cell? ⟨w.heap.size, 0, none⟩ = some (.bool r.neg) ∧ w'.cell? ⟨w.heap.size, 1, none⟩ = some (.slice ra0 r.num.length rc0) ∧ w'.cell? ⟨w.heap.size, 2, none⟩ = some (.slice ra1 r.den.length rc1) ∧ w'.cell? ⟨w.heap.size + 1, 0, none⟩ = some (.bool p.x.neg) ∧ w'.cell? ⟨w.heap.size + 1, 1, none⟩ = some (.slice pa0 p.x.num.length pc0) ∧ w'.cell? ⟨w.heap.size + 1, 2, none⟩ = some (.slice pa1 p.x.den.length pc1) ∧ w'.cell? ⟨w.heap.size + 1, 3, none⟩ = some (.bool p.y.neg) ∧ w'.cell? ⟨w.heap.size + 1, 4, none⟩ = some (.slice pa2 p.y.num.length pc2) ∧ w'.cell? ⟨w.heap.size + 1, 5, none⟩ = some (.slice pa3 p.y.den.length pc3))
    ((refine ⟨?_, ?_, ?_, ?_, ?_, ?_, ?_, ?_, ?_⟩ <;> (repeat first | with_reducible assumption | with_reducible refine cell_low ?_ (by first | (simp; done) | (simp; omega) | omega) | with_reducible refine cell_step ?_ b18 | with_reducible refine cell_step ?_ b19 | with_reducible refine cell_step ?_ b20 | with_reducible refine cell_dr ?_)))
    (first | (go_at_call 61; clear tok18; refine (implRatMul_R r p.x R0 H0.out ra0 rc0 ra1 rc1 pa0 pc0 pa1 pc1 _ (rH0.out.below (B.out.drew)) (rH1.out.below (B.out.drew)) rl (pH0.out.below (B.out.drew)) (pH1.out.below (B.out.drew)) pl.x).mono ?_; rintro e W18 ⟨s0p0, s0d0, s0p1, s0d1, rfl, hO0, b18⟩; have s18 := b18.size; (try simp at s18)) | (go_at_call 61; clear tok19; refine (implRatMul_R r p.y R1 H1.out ra0 rc0 ra1 rc1 pa2 pc2 pa3 pc3 _ (rH0.out.below (bstepD B.out b18)) (rH1.out.below (bstepD B.out b18)) rl (pH2.out.below (bstepD B.out b18)) (pH3.out.below (bstepD B.out b18)) pl.y).mono ?_; rintro e W19 ⟨s1p0, s1d0, s1p1, s1d1, rfl, hO1, b19⟩; have s19 := b19.size; (try simp at s19)) | (go_at_call 111; refine (ifPoint_P R0 R1 s0p0 s0d0 s0p1 s0d1 s1p0 s1d0 s1p1 s1d1 _ T H2.out o0 o1 _ _ (Four.of (hO0.below b19) hO1 (Nat.le_refl _) (by first | omega | (simp; done) | (simp; omega)) (Nat.le_refl _) (by first | omega | (simp; done) | (simp; omega)) (by first | omega | (simp; done) | (simp; omega))) (Nat.le_refl _)).mono ?_; rintro e W20 ⟨s2p0, s2d0, s2p1, s2d1, s2p2, s2d2, s2p3, s2d3, rfl, hO2, b20⟩; have s20 := b20.size; (try simp at s20); have Rr := (box_step (box_step (box_step (box_drew Rr) b18) b19) b20); have Yr0 := Rr.cell 0 rfl; have Fr0 := Rr.frozen 0; have Yr1 := Rr.cell 1 rfl; have Fr1 := Rr.frozen 1; have Yr2 := Rr.cell 2 rfl; have Fr2 := Rr.frozen 2; have Yr3 := Rr.cell 3 rfl; have Fr3 := Rr.frozen 3; have Yr4 := Rr.cell 4 rfl; have Fr4 := Rr.frozen 4; have Yr5 := Rr.cell 5 rfl; have Fr5 := Rr.frozen 5; have Lr := Rr.lt))
  have sb18 := b18.size
  try simp at sb18
  have sb19 := b19.size
  have sb20 := b20.size
  have O0 := Lib.hid (((hO0.below b19).below b20))
  clear hO0
  have O1 := Lib.hid ((hO1.below b20))
  clear hO1
  have O2 := Lib.hid (hO2)
  clear hO2
  have B := Lib.hid (bstep (bstep (bstepD B.out b18) b19) b20)
  clear b18 b19 b20
  go_wp2
  refine bodyPost_ret (v := .agg #[.bool T.x.neg, .slice s2p0 T.x.num.length s2d0, .slice s2p1 T.x.den.length s2d1, .bool T.y.neg, .slice s2p2 T.y.num.length s2d2, .slice s2p3 T.y.den.length s2d3]) (by simp [results, Try.results69, go_sem, Yr0, Yr1, Yr2, Yr3, Yr4, Yr5, Lr]) rfl ⟨s2p0, s2d0, s2p1, s2d1, s2p2, s2d2, s2p3, s2d3, rfl, point_endR (by first | omega | (simp; done) | (simp; omega)) (by first | omega | (simp; done) | (simp; omega)) O2.out (by first | omega | (simp; done) | (simp; omega)) B.out⟩

set_option maxRecDepth 100000 in
set_option maxHeartbeats 4000000 in
theorem implInner_P (p : PT) (q : PT) (T : RA) (hT : innerPT p q = T) (pa0 : Option Addr) (pc0 : Nat) (pa1 : Option Addr) (pc1 : Nat) (pa2 : Option Addr) (pc2 : Nat) (pa3 : Option Addr) (pc3 : Nat) (qa0 : Option Addr) (qc0 : Nat) (qa1 : Option Addr) (qc1 : Nat) (qa2 : Option Addr) (qc2 : Nat) (qa3 : Option Addr) (qc3 : Nat) (w : World) (pi0 : IntsAt w pa0 pc0 p.x.num) (pi1 : IntsAt w pa1 pc1 p.x.den) (pi2 : IntsAt w pa2 pc2 p.y.num) (pi3 : IntsAt w pa3 pc3 p.y.den) (pl : LenPT p) (qi0 : IntsAt w qa0 qc0 q.x.num) (qi1 : IntsAt w qa1 qc1 q.x.den) (qi2 : IntsAt w qa2 qc2 q.y.num) (qi3 : IntsAt w qa3 qc3 q.y.den) (ql : LenPT q) : Calls Try.prog 75 #[.agg #[.bool p.x.neg, .slice pa0 p.x.num.length pc0, .slice pa1 p.x.den.length pc1, .bool p.y.neg, .slice pa2 p.y.num.length pc2, .slice pa3 p.y.den.length pc3], .agg #[.bool q.x.neg, .slice qa0 q.x.num.length qc0, .slice qa1 q.x.den.length qc1, .bool q.y.neg, .slice qa2 q.y.num.length qc2, .slice qa3 q.y.den.length qc3]] w (RatRet w T) := by
  obtain ⟨R0, h0⟩ : ∃ R, mulRA p.x q.x = R := ⟨_, rfl⟩
  have o0 : RaOr R0 := by rw [← h0]; exact raOr_mul _ _ _ _ _ _
  have l0 := o0.len'
  have H0 := Lib.hid h0
  obtain ⟨R1, h1⟩ : ∃ R, mulRA p.y q.y = R := ⟨_, rfl⟩
  have o1 : RaOr R1 := by rw [← h1]; exact raOr_mul _ _ _ _ _ _
  have l1 := o1.len'
  have H1 := Lib.hid h1
  have H2 : Hid (addRA R0 R1 = T) := by unfold Hid; rw [← hT, ← h0, ← h1]; rfl
  clear hT h0 h1
  have pH0 := Lib.hid pi0
  have pH1 := Lib.hid pi1
  have pH2 := Lib.hid pi2
  have pH3 := Lib.hid pi3
  have qH0 := Lib.hid qi0
  have qH1 := Lib.hid qi1
  have qH2 := Lib.hid qi2
  have qH3 := Lib.hid qi3
  clear pi0 pi1 pi2 pi3 qi0 qi1 qi2 qi3
  have BR : Below (((w.alloc (.cells #[.bool p.x.neg, .slice pa0 p.x.num.length pc0, .slice pa1 p.x.den.length pc1, .bool p.y.neg, .slice pa2 p.y.num.length pc2, .slice pa3 p.y.den.length pc3] 32)).alloc (.cells #[.bool q.x.neg, .slice qa0 q.x.num.length qc0, .slice qa1 q.x.den.length qc1, .bool q.y.neg, .slice qa2 q.y.num.length qc2, .slice qa3 q.y.den.length qc3] 32)).alloc (.cells #[.bool false, .slice none 0 0, .slice none 0 0] 26)).heap.size (((w.alloc (.cells #[.bool p.x.neg, .slice pa0 p.x.num.length pc0, .slice pa1 p.x.den.length pc1, .bool p.y.neg, .slice pa2 p.y.num.length pc2, .slice pa3 p.y.den.length pc3] 32)).alloc (.cells #[.bool q.x.neg, .slice qa0 q.x.num.length qc0, .slice qa1 q.x.den.length qc1, .bool q.y.neg, .slice qa2 q.y.num.length qc2, .slice qa3 q.y.den.length qc3] 32)).alloc (.cells #[.bool false, .slice none 0 0, .slice none 0 0] 26)) (((w.alloc (.cells #[.bool p.x.neg, .slice pa0 p.x.num.length pc0, .slice pa1 p.x.den.length pc1, .bool p.y.neg, .slice pa2 p.y.num.length pc2, .slice pa3 p.y.den.length pc3] 32)).alloc (.cells #[.bool q.x.neg, .slice qa0 q.x.num.length qc0, .slice qa1 q.x.den.length qc1, .bool q.y.neg, .slice qa2 q.y.num.length qc2, .slice qa3 q.y.den.length qc3] 32)).alloc (.cells #[.bool false, .slice none 0 0, .slice none 0 0] 26)) := Below.refl _ _
  have Rx := bx3_0 BR
  have Ry := bx3_1 BR
  have Rr := bx3_2 BR
  have B : Hid (Below w.heap.size w (((w.alloc (.cells #[.bool p.x.neg, .slice pa0 p.x.num.length pc0, .slice pa1 p.x.den.length pc1, .bool p.y.neg, .slice pa2 p.y.num.length pc2, .slice pa3 p.y.den.length pc3] 32)).alloc (.cells #[.bool q.x.neg, .slice qa0 q.x.num.length qc0, .slice qa1 q.x.den.length qc1, .bool q.y.neg, .slice qa2 q.y.num.length qc2, .slice qa3 q.y.den.length qc3] 32)).alloc (.cells #[.bool false, .slice none 0 0, .slice none 0 0] 26))) := Lib.hid (ba3 _ _ _ _)
  have Yx0 := Rx.c0
  have Yx1 := Rx.c1
  have Yx2 := Rx.c2
  have Yx3 := Rx.c3
  have Yx4 := Rx.c4
  have Yx5 := Rx.c5
  have Yy0 := Ry.c0
  have Yy1 := Ry.c1
  have Yy2 := Ry.c2
  have Yy3 := Ry.c3
  have Yy4 := Ry.c4
  have Yy5 := Ry.c5
  have Yr0 := Rr.c0
  have Yr1 := Rr.c1
  have Yr2 := Rr.c2
  clear BR
  go_enter Try.func75, Try.ntmps75
  have tok21 : True := trivial
  have tok22 : True := trivial
  go_wp2_with fail
  go_region_held3 (fun w' => w'.cell? ⟨w.heap.size, 0, none⟩ = some (.bool p.x.neg) ∧ w'.cell? ⟨w.heap.size, 1, none⟩ = some (.slice pa0 p.x.num.length pc0) ∧ w'.cell? ⟨w.heap.size, 2, none⟩ = some (.slice pa1 p.x.den.length pc1) ∧ w'.cell? ⟨w.heap.size, 3, none⟩ = some (.bool p.y.neg) ∧ w'.cell? ⟨w.heap.size, 4, none⟩ = some (.slice pa2 p.y.num.length pc2) ∧ w'.cell? ⟨w.heap.size, 5, none⟩ = some (.slice pa3 p.y.den.length pc3) ∧ w'.cell? ⟨w.heap.size + 1, 0, none⟩ = some (.bool q.x.neg) ∧ w'.cell? ⟨w.heap.size + 1, 1, none⟩ = some (.slice qa0 q.x.num.length qc0) ∧ w'.cell? ⟨w.heap.size + 1, 2, none⟩ = some (.slice qa1 q.x.den.length qc1) ∧ w'.cell? ⟨w.heap.size + 1, 3, none⟩ = some (.bool q.y.neg) ∧ w'.cell? ⟨w.heap.size + 1, 4, none⟩ = some (.slice qa2 q.y.num.length qc2) ∧ w'.cell? ⟨w.heap.size + 1, 5, none⟩ = some (.slice qa3 q.y.den.length qc3))
    ((first | exact ⟨Yx0, Yx1, Yx2, Yx3, Yx4, Yx5, Yy0, Yy1, Yy2, Yy3, Yy4, Yy5⟩ | exact ⟨cell_stepD Yx0 b21, cell_stepD Yx1 b21, cell_stepD Yx2 b21, cell_stepD Yx3 b21, cell_stepD Yx4 b21, cell_stepD Yx5 b21, cell_stepD Yy0 b21, cell_stepD Yy1 b21, cell_stepD Yy2 b21, cell_stepD Yy3 b21, cell_stepD Yy4 b21, cell_stepD Yy5 b21⟩ | exact ⟨cell_step (cell_stepD Yx0 b21) b22, cell_step (cell_stepD Yx1 b21) b22, cell_step (cell_stepD Yx2 b21) b22, cell_step (cell_stepD Yx3 b21) b22, cell_step (cell_stepD Yx4 b21) b22, cell_step (cell_stepD Yx5 b21) b22, cell_step (cell_stepD Yy0 b21) b22, cell_step (cell_stepD Yy1 b21) b22, cell_step (cell_stepD Yy2 b21) b22, cell_step (cell_stepD Yy3 b21) b22, cell_step (cell_stepD Yy4 b21) b22, cell_step (cell_stepD Yy5 b21) b22⟩ | exact ⟨cell_step (cell_step (cell_stepD Yx0 b21) b22) b23, cell_step (cell_step (cell_stepD Yx1 b21) b22) b23, cell_step (cell_step (cell_stepD Yx2 b21) b22) b23, cell_step (cell_step (cell_stepD Yx3 b21) b22) b23, cell_step (cell_step (cell_stepD Yx4 b21) b22) b23, cell_step (cell_step (cell_stepD Yx5 b21) b22) b23, cell_step (cell_step (cell_stepD Yy0 b21) b22) b23, cell_step (cell_step (cell_stepD Yy1 b21) b22) b23, cell_step (cell_step (cell_stepD Yy2 b21) b22) b23, cell_step (cell_step (cell_stepD Yy3 b21) b22) b23, cell_step (cell_step (cell_stepD Yy4 b21) b22) b23, cell_step (cell_step (cell_stepD Yy5 b21) b22) b23⟩ | exact ⟨cell_low (cell_low (cell_low (cell_step (cell_step (cell_stepD Yx0 b21) b22) b23) (by first | (simp; done) | (simp; omega) | omega)) (by first | (simp; done) | (simp; omega) | omega)) (by first | (simp; done) | (simp; omega) | omega), cell_low (cell_low (cell_low (cell_step (cell_step (cell_stepD Yx1 b21) b22) b23) (by first | (simp; done) | (simp; omega) | omega)) (by first | (simp; done) | (simp; omega) | omega)) (by first | (simp; done) | (simp; omega) | omega), cell_low (cell_low (cell_low (cell_step (cell_step (cell_stepD Yx2 b21) b22) b23) (by first | (simp; done) | (simp; omega) | omega)) (by first | (simp; done) | (simp; omega) | omega)) (by first | (simp; done) | (simp; omega) | omega), cell_low (cell_low (cell_low (cell_step (cell_step (cell_stepD Yx3 b21) b22) b23) (by first | (simp; done) | (simp; omega) | omega)) (by first | (simp; done) | (simp; omega) | omega)) (by first | (simp; done) | (simp; omega) | omega), cell_low (cell_low (cell_low (cell_step (cell_step (cell_stepD Yx4 b21) b22) b23) (by first | (simp; done) | (simp; omega) | omega)) (by first | (simp; done) | (simp; omega) | omega)) (by first | (simp; done) | (simp; omega) | omega), cell_low (cell_low (cell_low (cell_step (cell_step (cell_stepD Yx5 b21) b22) b23) (by first | (simp; done) | (simp; omega) | omega)) (by first | (simp; done) | (simp; omega) | omega)) (by first | (simp; done) | (simp; omega) | omega), cell_low (cell_low (cell_low (cell_step (cell_step (cell_stepD Yy0 b21) b22) b23) (by first | (simp; done) | (simp; omega) | omega)) (by first | (simp; done) | (simp; omega) | omega)) (by first | (simp; done) | (simp; omega) | omega), cell_low (cell_low (cell_low (cell_step (cell_step (cell_stepD Yy1 b21) b22) b23) (by first | (simp; done) | (simp; omega) | omega)) (by first | (simp; done) | (simp; omega) | omega)) (by first | (simp; done) | (simp; omega) | omega), cell_low (cell_low (cell_low (cell_step (cell_step (cell_stepD Yy2 b21) b22) b23) (by first | (simp; done) | (simp; omega) | omega)) (by first | (simp; done) | (simp; omega) | omega)) (by first | (simp; done) | (simp; omega) | omega), cell_low (cell_low (cell_low (cell_step (cell_step (cell_stepD Yy3 b21) b22) b23) (by first | (simp; done) | (simp; omega) | omega)) (by first | (simp; done) | (simp; omega) | omega)) (by first | (simp; done) | (simp; omega) | omega), cell_low (cell_low (cell_low (cell_step (cell_step (cell_stepD Yy4 b21) b22) b23) (by first | (simp; done) | (simp; omega) | omega)) (by first | (simp; done) | (simp; omega) | omega)) (by first | (simp; done) | (simp; omega) | omega), cell_low (cell_low (cell_low (cell_step (cell_step (cell_stepD Yy5 b21) b22) b23) (by first | (simp; done) | (simp; omega) | omega)) (by first | (simp; done) | (simp; omega) | omega)) (by first | (simp; done) | (simp; omega) | omega)⟩))
    (first | (go_at_call 61; clear tok21; refine (implRatMul_R p.x q.x R0 H0.out pa0 pc0 pa1 pc1 qa0 qc0 qa1 qc1 _ (pH0.out.below (B.out.drew)) (pH1.out.below (B.out.drew)) pl.x (qH0.out.below (B.out.drew)) (qH1.out.below (B.out.drew)) ql.x).mono ?_; rintro e W21 ⟨s0p0, s0d0, s0p1, s0d1, rfl, hO0, b21⟩; have s21 := b21.size; (try simp at s21)) | (go_at_call 61; clear tok22; refine (implRatMul_R p.y q.y R1 H1.out pa2 pc2 pa3 pc3 qa2 qc2 qa3 qc3 _ (pH2.out.below (bstepD B.out b21)) (pH3.out.below (bstepD B.out b21)) pl.y (qH2.out.below (bstepD B.out b21)) (qH3.out.below (bstepD B.out b21)) ql.y).mono ?_; rintro e W22 ⟨s1p0, s1d0, s1p1, s1d1, rfl, hO1, b22⟩; have s22 := b22.size; (try simp at s22)) | (go_at_call 71; refine (implRatAdd_R R0 R1 T H2.out s0p0 s0d0 s0p1 s0d1 s1p0 s1d0 s1p1 s1d1 _ (hO0.below b22).i1 (hO0.below b22).i2 l0 hO1.i1 hO1.i2 l1).mono ?_; rintro e W23 ⟨s2p0, s2d0, s2p1, s2d1, rfl, hO2, b23⟩; have s23 := b23.size; (try simp at s23); have Rr := (box_step (box_step (box_step (box_drew Rr) b21) b22) b23); have Yr0 := Rr.cell 0 rfl; have Fr0 := Rr.frozen 0; have Yr1 := Rr.cell 1 rfl; have Fr1 := Rr.frozen 1; have Yr2 := Rr.cell 2 rfl; have Fr2 := Rr.frozen 2; have Lr := Rr.lt))
  have sb21 := b21.size
  try simp at sb21
  have sb22 := b22.size
  have sb23 := b23.size
  have O0 := Lib.hid (((hO0.below b22).below b23))
  clear hO0
  have O1 := Lib.hid ((hO1.below b23))
  clear hO1
  have O2 := Lib.hid (hO2)
  clear hO2
  have B := Lib.hid (bstep (bstep (bstepD B.out b21) b22) b23)
  clear b21 b22 b23
  go_wp2
  refine bodyPost_ret (v := .agg #[.bool T.neg, .slice s2p0 T.num.length s2d0, .slice s2p1 T.den.length s2d1]) (by simp [results, Try.results75, go_sem, Yr0, Yr1, Yr2, Lr]) rfl ⟨s2p0, s2d0, s2p1, s2d1, rfl, rat_endR (by first | omega | (simp; done) | (simp; omega)) (by first | omega | (simp; done) | (simp; omega)) O2.out (by first | omega | (simp; done) | (simp; omega)) B.out _ _ _⟩

set_option maxRecDepth 100000 in
set_option maxHeartbeats 4000000 in
theorem implCross_P (p : PT) (q : PT) (T : RA) (hT : crossPT p q = T) (pa0 : Option Addr) (pc0 : Nat) (pa1 : Option Addr) (pc1 : Nat) (pa2 : Option Addr) (pc2 : Nat) (pa3 : Option Addr) (pc3 : Nat) (qa0 : Option Addr) (qc0 : Nat) (qa1 : Option Addr) (qc1 : Nat) (qa2 : Option Addr) (qc2 : Nat) (qa3 : Option Addr) (qc3 : Nat) (w : World) (pi0 : IntsAt w pa0 pc0 p.x.num) (pi1 : IntsAt w pa1 pc1 p.x.den) (pi2 : IntsAt w pa2 pc2 p.y.num) (pi3 : IntsAt w pa3 pc3 p.y.den) (pl : LenPT p) (qi0 : IntsAt w qa0 qc0 q.x.num) (qi1 : IntsAt w qa1 qc1 q.x.den) (qi2 : IntsAt w qa2 qc2 q.y.num) (qi3 : IntsAt w qa3 qc3 q.y.den) (ql : LenPT q) : Calls Try.prog 77 #[.agg #[.bool p.x.neg, .slice pa0 p.x.num.length pc0, .slice pa1 p.x.den.length pc1, .bool p.y.neg, .slice pa2 p.y.num.length pc2, .slice pa3 p.y.den.length pc3], .agg #[.bool q.x.neg, .slice qa0 q.x.num.length qc0, .slice qa1 q.x.den.length qc1, .bool q.y.neg, .slice qa2 q.y.num.length qc2, .slice qa3 q.y.den.length qc3]] w (RatRet w T) := by
  obtain ⟨R0, h0⟩ : ∃ R, mulRA p.x q.y = R := ⟨_, rfl⟩
  have o0 : RaOr R0 := by rw [← h0]; exact raOr_mul _ _ _ _ _ _
  have l0 := o0.len'
  have H0 := Lib.hid h0
  obtain ⟨R1, h1⟩ : ∃ R, mulRA p.y q.x = R := ⟨_, rfl⟩
  have o1 : RaOr R1 := by rw [← h1]; exact raOr_mul _ _ _ _ _ _
  have l1 := o1.len'
  have H1 := Lib.hid h1
  have H2 : Hid (subRA R0 R1 = T) := by unfold Hid; rw [← hT, ← h0, ← h1]; rfl
  clear hT h0 h1
  have pH0 := Lib.hid pi0
  have pH1 := Lib.hid pi1
  have pH2 := Lib.hid pi2
  have pH3 := Lib.hid pi3
  have qH0 := Lib.hid qi0
  have qH1 := Lib.hid qi1
  have qH2 := Lib.hid qi2
  have qH3 := Lib.hid qi3
  clear pi0 pi1 pi2 pi3 qi0 qi1 qi2 qi3
  have BR : Below (((w.alloc (.cells #[.bool p.x.neg, .slice pa0 p.x.num.length pc0, .slice pa1 p.x.den.length pc1, .bool p.y.neg, .slice pa2 p.y.num.length pc2, .slice pa3 p.y.den.length pc3] 32)).alloc (.cells #[.bool q.x.neg, .slice qa0 q.x.num.length qc0, .slice qa1 q.x.den.length qc1, .bool q.y.neg, .slice qa2 q.y.num.length qc2, .slice qa3 q.y.den.length qc3] 32)).alloc (.cells #[.bool false, .slice none 0 0, .slice none 0 0] 26)).heap.size (((w.alloc (.cells #[.bool p.x.neg, .slice pa0 p.x.num.length pc0, .slice pa1 p.x.den.length pc1, .bool p.y.neg, .slice pa2 p.y.num.length pc2, .slice pa3 p.y.den.length pc3] 32)).alloc (.cells #[.bool q.x.neg, .slice qa0 q.x.num.length qc0, .slice qa1 q.x.den.length qc1, .bool q.y.neg, .slice qa2 q.y.num.length qc2, .slice qa3 q.y.den.length qc3] 32)).alloc (.cells #[.bool false, .slice none 0 0, .slice none 0 0] 26)) (((w.alloc (.cells #[.bool p.x.neg, .slice pa0 p.x.num.length pc0, .slice pa1 p.x.den.length pc1, .bool p.y.neg, .slice pa2 p.y.num.length pc2, .slice pa3 p.y.den.length pc3] 32)).alloc (.cells #[.bool q.x.neg, .slice qa0 q.x.num.length qc0, .slice qa1 q.x.den.length qc1, .bool q.y.neg, .slice qa2 q.y.num.length qc2, .slice qa3 q.y.den.length qc3] 32)).alloc (.cells #[.bool false, .slice none 0 0, .slice none 0 0] 26)) := Below.refl _ _
  have Rx := bx3_0 BR
  have Ry := bx3_1 BR
  have Rr := bx3_2 BR
  have B : Hid (Below w.heap.size w (((w.alloc (.cells #[.bool p.x.neg, .slice pa0 p.x.num.length pc0, .slice pa1 p.x.den.length pc1, .bool p.y.neg, .slice pa2 p.y.num.length pc2, .slice pa3 p.y.den.length pc3] 32)).alloc (.cells #[.bool q.x.neg, .slice qa0 q.x.num.length qc0, .slice qa1 q.x.den.length qc1, .bool q.y.neg, .slice qa2 q.y.num.length qc2, .slice qa3 q.y.den.length qc3] 32)).alloc (.cells #[.bool false, .slice none 0 0, .slice none 0 0] 26))) := Lib.hid (ba3 _ _ _ _)
  have Yx0 := Rx.c0
  have Yx1 := Rx.c1
  have Yx2 := Rx.c2
  have Yx3 := Rx.c3
  have Yx4 := Rx.c4
  have Yx5 := Rx.c5
  have Yy0 := Ry.c0
  have Yy1 := Ry.c1
  have Yy2 := Ry.c2
  have Yy3 := Ry.c3
  have Yy4 := Ry.c4
  have Yy5 := Ry.c5
  have Yr0 := Rr.c0
  have Yr1 := Rr.c1
  have Yr2 := Rr.c2
  clear BR
  go_enter Try.func77, Try.ntmps77
  have tok24 : True := trivial
  have tok25 : True := trivial
  go_wp2_with fail
  go_region_held3 (fun w' => w'.cell? ⟨w.heap.size, 0, none⟩ = some (.bool p.x.neg) ∧ w'.cell? ⟨w.heap.size, 1, none⟩ = some (.slice pa0 p.x.num.length pc0) ∧ w'.cell? ⟨w.heap.size, 2, none⟩ = some (.slice pa1 p.x.den.length pc1) ∧ w'.cell? ⟨w.heap.size, 3, none⟩ = some (.bool p.y.neg) ∧ w'.cell? ⟨w.heap.size, 4, none⟩ = some (.slice pa2 p.y.num.length pc2) ∧ w'.cell? ⟨w.heap.size, 5, none⟩ = some (.slice pa3 p.y.den.length pc3) ∧ w'.cell? ⟨w.heap.size + 1, 0, none⟩ = some (.bool q.x.neg) ∧ w'.cell? ⟨w.heap.size + 1, 1, none⟩ = some (.slice qa0 q.x.num.length qc0) ∧ w'.cell? ⟨w.heap.size + 1, 2, none⟩ = some (.slice qa1 q.x.den.length qc1) ∧ w'.cell? ⟨w.heap.size + 1, 3, none⟩ = some (.bool q.y.neg) ∧ w'.cell? ⟨w.heap.size + 1, 4, none⟩ = some (.slice qa2 q.y.num.length qc2) ∧ w'.cell? ⟨w.heap.size + 1, 5, none⟩ = some (.slice qa3 q.y.den.length qc3))
    ((first | exact ⟨Yx0, Yx1, Yx2, Yx3, Yx4, Yx5, Yy0, Yy1, Yy2, Yy3, Yy4, Yy5⟩ | exact ⟨cell_stepD Yx0 b24, cell_stepD Yx1 b24, cell_stepD Yx2 b24, cell_stepD Yx3 b24, cell_stepD Yx4 b24, cell_stepD Yx5 b24, cell_stepD Yy0 b24, cell_stepD Yy1 b24, cell_stepD Yy2 b24, cell_stepD Yy3 b24, cell_stepD Yy4 b24, cell_stepD Yy5 b24⟩ | exact ⟨cell_step (cell_stepD Yx0 b24) b25, cell_step (cell_stepD Yx1 b24) b25, cell_step (cell_stepD Yx2 b24) b25, cell_step (cell_stepD Yx3 b24) b25, cell_step (cell_stepD Yx4 b24) b25, cell_step (cell_stepD Yx5 b24) b25, cell_step (cell_stepD Yy0 b24) b25, cell_step (cell_stepD Yy1 b24) b25, cell_step (cell_stepD Yy2 b24) b25, cell_step (cell_stepD Yy3 b24) b25, cell_step (cell_stepD Yy4 b24) b25, cell_step (cell_stepD Yy5 b24) b25⟩ | exact ⟨cell_step (cell_step (cell_stepD Yx0 b24) b25) b26, cell_step (cell_step (cell_stepD Yx1 b24) b25) b26, cell_step (cell_step (cell_stepD Yx2 b24) b25) b26, cell_step (cell_step (cell_stepD Yx3 b24) b25) b26, cell_step (cell_step (cell_stepD Yx4 b24) b25) b26, cell_step (cell_step (cell_stepD Yx5 b24) b25) b26, cell_step (cell_step (cell_stepD Yy0 b24) b25) b26, cell_step (cell_step (cell_stepD Yy1 b24) b25) b26, cell_step (cell_step (cell_stepD Yy2 b24) b25) b26, cell_step (cell_step (cell_stepD Yy3 b24) b25) b26, cell_step (cell_step (cell_stepD Yy4 b24) b25) b26, cell_step (cell_step (cell_stepD Yy5 b24) b25) b26⟩ | exact ⟨cell_low (cell_low (cell_low (cell_step (cell_step (cell_stepD Yx0 b24) b25) b26) (by first | (simp; done) | (simp; omega) | omega)) (by first | (simp; done) | (simp; omega) | omega)) (by first | (simp; done) | (simp; omega) | omega), cell_low (cell_low (cell_low (cell_step (cell_step (cell_stepD Yx1 b24) b25) b26) (by first | (simp; done) | (simp; omega) | omega)) (by first | (simp; done) | (simp; omega) | omega)) (by first | (simp; done) | (simp; omega) | omega), cell_low (cell_low (cell_low (cell_step (cell_step (cell_stepD Yx2 b24) b25) b26) (by first | (simp; done) | (simp; omega) | omega)) (by first | (simp; done) | (simp; omega) | omega)) (by first | (simp; done) | (simp; omega) | omega), cell_low (cell_low (cell_low (cell_step (cell_step (cell_stepD Yx3 b24) b25) b26) (by first | (simp; done) | (simp; omega) | omega)) (by first | (simp; done) | (simp; omega) | omega)) (by first | (simp; done) | (simp; omega) | omega), cell_low (cell_low (cell_low (cell_step (cell_step (cell_stepD Yx4 b24) b25) b26) (by first | (simp; done) | (simp; omega) | omega)) (by first | (simp; done) | (simp; omega) | omega)) (by first | (simp; done) | (simp; omega) | omega), cell_low (cell_low (cell_low (cell_step (cell_step (cell_stepD Yx5 b24) b25) b26) (by first | (simp; done) | (simp; omega) | omega)) (by first | (simp; done) | (simp; omega) | omega)) (by first | (simp; done) | (simp; omega) | omega), cell_low (cell_low (cell_low (cell_step (cell_step (cell_stepD Yy0 b24) b25) b26) (by first | (simp; done) | (simp; omega) | omega)) (by first | (simp; done) | (simp; omega) | omega)) (by first | (simp; done) | (simp; omega) | omega), cell_low (cell_low (cell_low (cell_step (cell_step (cell_stepD Yy1 b24) b25) b26) (by first | (simp; done) | (simp; omega) | omega)) (by first | (simp; done) | (simp; omega) | omega)) (by first | (simp; done) | (simp; omega) | omega), cell_low (cell_low (cell_low (cell_step (cell_step (cell_stepD Yy2 b24) b25) b26) (by first | (simp; done) | (simp; omega) | omega)) (by first | (simp; done) | (simp; omega) | omega)) (by first | (simp; done) | (simp; omega) | omega), cell_low (cell_low (cell_low (cell_step (cell_step (cell_stepD Yy3 b24) b25) b26) (by first | (simp; done) | (simp; omega) | omega)) (by first | (simp; done) | (simp; omega) | omega)) (by first | (simp; done) | (simp; omega) | omega), cell_low (cell_low (cell_low (cell_step (cell_step (cell_stepD Yy4 b24) b25) b26) (by first | (simp; done) | (simp; omega) | omega)) (by first | (simp; done) | (simp; omega) | omega)) (by first | (simp; done) | (simp; omega) | omega), cell_low (cell_low (cell_low (cell_step (cell_step (cell_stepD Yy5 b24) b25) b26) (by first | (simp; done) | (simp; omega) | omega)) (by first | (simp; done) | (simp; omega) | omega)) (by first | (simp; done) | (simp; omega) | omega)⟩))
    (first | (go_at_call 61; clear tok24; refine (implRatMul_R p.x q.y R0 H0.out pa0 pc0 pa1 pc1 qa2 qc2 qa3 qc3 _ (pH0.out.below (B.out.drew)) (pH1.out.below (B.out.drew)) pl.x (qH2.out.below (B.out.drew)) (qH3.out.below (B.out.drew)) ql.y).mono ?_; rintro e W24 ⟨s0p0, s0d0, s0p1, s0d1, rfl, hO0, b24⟩; have s24 := b24.size; (try simp at s24)) | (go_at_call 61; clear tok25; refine (implRatMul_R p.y q.x R1 H1.out pa2 pc2 pa3 pc3 qa0 qc0 qa1 qc1 _ (pH2.out.below (bstepD B.out b24)) (pH3.out.below (bstepD B.out b24)) pl.y (qH0.out.below (bstepD B.out b24)) (qH1.out.below (bstepD B.out b24)) ql.x).mono ?_; rintro e W25 ⟨s1p0, s1d0, s1p1, s1d1, rfl, hO1, b25⟩; have s25 := b25.size; (try simp at s25)) | (go_at_call 73; refine (implRatSub_R R0 R1 T H2.out s0p0 s0d0 s0p1 s0d1 s1p0 s1d0 s1p1 s1d1 _ (hO0.below b25).i1 (hO0.below b25).i2 l0 hO1.i1 hO1.i2 l1).mono ?_; rintro e W26 ⟨s2p0, s2d0, s2p1, s2d1, rfl, hO2, b26⟩; have s26 := b26.size; (try simp at s26); have Rr := (box_step (box_step (box_step (box_drew Rr) b24) b25) b26); have Yr0 := Rr.cell 0 rfl; have Fr0 := Rr.frozen 0; have Yr1 := Rr.cell 1 rfl; have Fr1 := Rr.frozen 1; have Yr2 := Rr.cell 2 rfl; have Fr2 := Rr.frozen 2; have Lr := Rr.lt))
  have sb24 := b24.size
  try simp at sb24
  have sb25 := b25.size
  have sb26 := b26.size
  have O0 := Lib.hid (((hO0.below b25).below b26))
  clear hO0
  have O1 := Lib.hid ((hO1.below b26))
  clear hO1
  have O2 := Lib.hid (hO2)
  clear hO2
  have B := Lib.hid (bstep (bstep (bstepD B.out b24) b25) b26)
  clear b24 b25 b26
  go_wp2
  refine bodyPost_ret (v := .agg #[.bool T.neg, .slice s2p0 T.num.length s2d0, .slice s2p1 T.den.length s2d1]) (by simp [results, Try.results77, go_sem, Yr0, Yr1, Yr2, Lr]) rfl ⟨s2p0, s2d0, s2p1, s2d1, rfl, rat_endR (by first | omega | (simp; done) | (simp; omega)) (by first | omega | (simp; done) | (simp; omega)) O2.out (by first | omega | (simp; done) | (simp; omega)) B.out _ _ _⟩

set_option maxRecDepth 100000 in
set_option maxHeartbeats 4000000 in
theorem implDoubleArea_P (p : PT) (q : PT) (t : PT) (T : RA) (hT : areaPT p q t = T) (pa0 : Option Addr) (pc0 : Nat) (pa1 : Option Addr) (pc1 : Nat) (pa2 : Option Addr) (pc2 : Nat) (pa3 : Option Addr) (pc3 : Nat) (qa0 : Option Addr) (qc0 : Nat) (qa1 : Option Addr) (qc1 : Nat) (qa2 : Option Addr) (qc2 : Nat) (qa3 : Option Addr) (qc3 : Nat) (ta0 : Option Addr) (tc0 : Nat) (ta1 : Option Addr) (tc1 : Nat) (ta2 : Option Addr) (tc2 : Nat) (ta3 : Option Addr) (tc3 : Nat) (w : World) (pi0 : IntsAt w pa0 pc0 p.x.num) (pi1 : IntsAt w pa1 pc1 p.x.den) (pi2 : IntsAt w pa2 pc2 p.y.num) (pi3 : IntsAt w pa3 pc3 p.y.den) (pl : LenPT p) (qi0 : IntsAt w qa0 qc0 q.x.num) (qi1 : IntsAt w qa1 qc1 q.x.den) (qi2 : IntsAt w qa2 qc2 q.y.num) (qi3 : IntsAt w qa3 qc3 q.y.den) (ql : LenPT q) (ti0 : IntsAt w ta0 tc0 t.x.num) (ti1 : IntsAt w ta1 tc1 t.x.den) (ti2 : IntsAt w ta2 tc2 t.y.num) (ti3 : IntsAt w ta3 tc3 t.y.den) (tl : LenPT t) : Calls Try.prog 83 #[.agg #[.bool p.x.neg, .slice pa0 p.x.num.length pc0, .slice pa1 p.x.den.length pc1, .bool p.y.neg, .slice pa2 p.y.num.length pc2, .slice pa3 p.y.den.length pc3], .agg #[.bool q.x.neg, .slice qa0 q.x.num.length qc0, .slice qa1 q.x.den.length qc1, .bool q.y.neg, .slice qa2 q.y.num.length qc2, .slice qa3 q.y.den.length qc3], .agg #[.bool t.x.neg, .slice ta0 t.x.num.length tc0, .slice ta1 t.x.den.length tc1, .bool t.y.neg, .slice ta2 t.y.num.length tc2, .slice ta3 t.y.den.length tc3]] w (RatRet w T) := by
  obtain ⟨R0, h0⟩ : ∃ R, subPT q p = R := ⟨_, rfl⟩
  have o0 : PtOr R0 := by rw [← h0]; exact ptOr_sub _ _
  have l0 := o0.len'
  have H0 := Lib.hid h0
  obtain ⟨R1, h1⟩ : ∃ R, subPT t p = R := ⟨_, rfl⟩
  have o1 : PtOr R1 := by rw [← h1]; exact ptOr_sub _ _
  have l1 := o1.len'
  have H1 := Lib.hid h1
  have H2 : Hid (crossPT R0 R1 = T) := by unfold Hid; rw [← hT, ← h0, ← h1]; rfl
  clear hT h0 h1
  have pH0 := Lib.hid pi0
  have pH1 := Lib.hid pi1
  have pH2 := Lib.hid pi2
  have pH3 := Lib.hid pi3
  have qH0 := Lib.hid qi0
  have qH1 := Lib.hid qi1
  have qH2 := Lib.hid qi2
  have qH3 := Lib.hid qi3
  have tH0 := Lib.hid ti0
  have tH1 := Lib.hid ti1
  have tH2 := Lib.hid ti2
  have tH3 := Lib.hid ti3
  clear pi0 pi1 pi2 pi3 qi0 qi1 qi2 qi3 ti0 ti1 ti2 ti3
  have BR : Below ((((w.alloc (.cells #[.bool p.x.neg, .slice pa0 p.x.num.length pc0, .slice pa1 p.x.den.length pc1, .bool p.y.neg, .slice pa2 p.y.num.length pc2, .slice pa3 p.y.den.length pc3] 32)).alloc (.cells #[.bool q.x.neg, .slice qa0 q.x.num.length qc0, .slice qa1 q.x.den.length qc1, .bool q.y.neg, .slice qa2 q.y.num.length qc2, .slice qa3 q.y.den.length qc3] 32)).alloc (.cells #[.bool t.x.neg, .slice ta0 t.x.num.length tc0, .slice ta1 t.x.den.length tc1, .bool t.y.neg, .slice ta2 t.y.num.length tc2, .slice ta3 t.y.den.length tc3] 32)).alloc (.cells #[.bool false, .slice none 0 0, .slice none 0 0] 26)).heap.size ((((w.alloc (.cells #[.bool p.x.neg, .slice pa0 p.x.num.length pc0, .slice pa1 p.x.den.length pc1, .bool p.y.neg, .slice pa2 p.y.num.length pc2, .slice pa3 p.y.den.length pc3] 32)).alloc (.cells #[.bool q.x.neg, .slice qa0 q.x.num.length qc0, .slice qa1 q.x.den.length qc1, .bool q.y.neg, .slice qa2 q.y.num.length qc2, .slice qa3 q.y.den.length qc3] 32)).alloc (.cells #[.bool t.x.neg, .slice ta0 t.x.num.length tc0, .slice ta1 t.x.den.length tc1, .bool t.y.neg, .slice ta2 t.y.num.length tc2, .slice ta3 t.y.den.length tc3] 32)).alloc (.cells #[.bool false, .slice none 0 0, .slice none 0 0] 26)) ((((w.alloc (.cells #[.bool p.x.neg, .slice pa0 p.x.num.length pc0, .slice pa1 p.x.den.length pc1, .bool p.y.neg, .slice pa2 p.y.num.length pc2, .slice pa3 p.y.den.length pc3] 32)).alloc (.cells #[.bool q.x.neg, .slice qa0 q.x.num.length qc0, .slice qa1 q.x.den.length qc1, .bool q.y.neg, .slice qa2 q.y.num.length qc2, .slice qa3 q.y.den.length qc3] 32)).alloc (.cells #[.bool t.x.neg, .slice ta0 t.x.num.length tc0, .slice ta1 t.x.den.length tc1, .bool t.y.neg, .slice ta2 t.y.num.length tc2, .slice ta3 t.y.den.length tc3] 32)).alloc (.cells #[.bool false, .slice none 0 0, .slice none 0 0] 26)) := Below.refl _ _
  have Rx := bx4_0 BR
  have Ry := bx4_1 BR
  have Rz := bx4_2 BR
  have Rr := bx4_3 BR
  have B : Hid (Below w.heap.size w ((((w.alloc (.cells #[.bool p.x.neg, .slice pa0 p.x.num.length pc0, .slice pa1 p.x.den.length pc1, .bool p.y.neg, .slice pa2 p.y.num.length pc2, .slice pa3 p.y.den.length pc3] 32)).alloc (.cells #[.bool q.x.neg, .slice qa0 q.x.num.length qc0, .slice qa1 q.x.den.length qc1, .bool q.y.neg, .slice qa2 q.y.num.length qc2, .slice qa3 q.y.den.length qc3] 32)).alloc (.cells #[.bool t.x.neg, .slice ta0 t.x.num.length tc0, .slice ta1 t.x.den.length tc1, .bool t.y.neg, .slice ta2 t.y.num.length tc2, .slice ta3 t.y.den.length tc3] 32)).alloc (.cells #[.bool false, .slice none 0 0, .slice none 0 0] 26))) := Lib.hid (ba4 _ _ _ _ _)
  have Yx0 := Rx.c0
  have Yx1 := Rx.c1
  have Yx2 := Rx.c2
  have Yx3 := Rx.c3
  have Yx4 := Rx.c4
  have Yx5 := Rx.c5
  have Yy0 := Ry.c0
  have Yy1 := Ry.c1
  have Yy2 := Ry.c2
  have Yy3 := Ry.c3
  have Yy4 := Ry.c4
  have Yy5 := Ry.c5
  have Yz0 := Rz.c0
  have Yz1 := Rz.c1
  have Yz2 := Rz.c2
  have Yz3 := Rz.c3
  have Yz4 := Rz.c4
  have Yz5 := Rz.c5
  have Yr0 := Rr.c0
  have Yr1 := Rr.c1
  have Yr2 := Rr.c2
  clear BR
  go_enter Try.func83, Try.ntmps83
  have tok27 : True := trivial
  have tok28 : True := trivial
  go_wp2_with fail
  go_region_held3 (fun w' => w'.cell? ⟨w.heap.size, 0, none⟩ = some (.bool p.x.neg) ∧ w'.cell? ⟨w.heap.size, 1, none⟩ = some (.slice pa0 p.x.num.length pc0) ∧ w'.cell? ⟨w.heap.size, 2, none⟩ = some (.slice pa1 p.x.den.length pc1) ∧ w'.cell? ⟨w.heap.size, 3, none⟩ = some (.bool p.y.neg) ∧ w'.cell? ⟨w.heap.size, 4, none⟩ = some (.slice pa2 p.y.num.length pc2) ∧ w'.cell? ⟨w.heap.size, 5, none⟩ = some (.slice pa3 p.y.den.length pc3) ∧ w'.cell? ⟨w.heap.size + 1, 0, none⟩ = some (.bool q.x.neg) ∧ w'.cell? ⟨w.heap.size + 1, 1, none⟩ = some (.slice qa0 q.x.num.length qc0) ∧ w'.cell? ⟨w.heap.size + 1, 2, none⟩ = some (.slice qa1 q.x.den.length qc1) ∧ w'.cell? ⟨w.heap.size + 1, 3, none⟩ = some (.bool q.y.neg) ∧ w'.cell? ⟨w.heap.size + 1, 4, none⟩ = some (.slice qa2 q.y.num.length qc2) ∧ w'.cell? ⟨w.heap.size + 1, 5, none⟩ = some (.slice qa3 q.y.den.length qc3) ∧ w'.cell? ⟨w.heap.size + 2, 0, none⟩ = some (.bool t.x.neg) ∧ w'.cell? ⟨w.heap.size + 2, 1, none⟩ = some (.slice ta0 t.x.num.length tc0) ∧ w'.cell? ⟨w.heap.size + 2, 2, none⟩ = some (.slice ta1 t.x.den.length tc1) ∧ w'.cell? ⟨w.heap.size + 2, 3, none⟩ = some (.bool t.y.neg) ∧ w'.cell? ⟨w.heap.size + 2, 4, none⟩ = some (.slice ta2 t.y.num.length tc2) ∧ w'.cell? ⟨w.heap.size + 2, 5, none⟩ = some (.slice ta3 t.y.den.length tc3))
    ((first | exact ⟨Yx0, Yx1, Yx2, Yx3, Yx4, Yx5, Yy0, Yy1, Yy2, Yy3, Yy4, Yy5, Yz0, Yz1, Yz2, Yz3, Yz4, Yz5⟩ | exact ⟨cell_stepD Yx0 b27, cell_stepD Yx1 b27, cell_stepD Yx2 b27, cell_stepD Yx3 b27, cell_stepD Yx4 b27, cell_stepD Yx5 b27, cell_stepD Yy0 b27, cell_stepD Yy1 b27, cell_stepD Yy2 b27, cell_stepD Yy3 b27, cell_stepD Yy4 b27, cell_stepD Yy5 b27, cell_stepD Yz0 b27, cell_stepD Yz1 b27, cell_stepD Yz2 b27, cell_stepD Yz3 b27, cell_stepD Yz4 b27, cell_stepD Yz5 b27⟩ | exact ⟨cell_step (cell_stepD Yx0 b27) b28, cell_step (cell_stepD Yx1 b27) b28, cell_step (cell_stepD Yx2 b27) b28, cell_step (cell_stepD Yx3 b27) b28, cell_step (cell_stepD Yx4 b27) b28, cell_step (cell_stepD Yx5 b27) b28, cell_step (cell_stepD Yy0 b27) b28, cell_step (cell_stepD Yy1 b27) b28, cell_step (cell_stepD Yy2 b27) b28, cell_step (cell_stepD Yy3 b27) b28, cell_step (cell_stepD Yy4 b27) b28, cell_step (cell_stepD Yy5 b27) b28, cell_step (cell_stepD Yz0 b27) b28, cell_step (cell_stepD Yz1 b27) b28, cell_step (cell_stepD Yz2 b27) b28, cell_step (cell_stepD Yz3 b27) b28, cell_step (cell_stepD Yz4 b27) b28, cell_step (cell_stepD Yz5 b27) b28⟩ | exact ⟨cell_step (cell_step (cell_stepD Yx0 b27) b28) b29, cell_step (cell_step (cell_stepD Yx1 b27) b28) b29, cell_step (cell_step (cell_stepD Yx2 b27) b28) b29, cell_step (cell_step (cell_stepD Yx3 b27) b28) b29, cell_step (cell_step (cell_stepD Yx4 b27) b28) b29, cell_step (cell_step (cell_stepD Yx5 b27) b28) b29, cell_step (cell_step (cell_stepD Yy0 b27) b28) b29, cell_step (cell_step (cell_stepD Yy1 b27) b28) b29, cell_step (cell_step (cell_stepD Yy2 b27) b28) b29, cell_step (cell_step (cell_stepD Yy3 b27) b28) b29, cell_step (cell_step (cell_stepD Yy4 b27) b28) b29, cell_step (cell_step (cell_stepD Yy5 b27) b28) b29, cell_step (cell_step (cell_stepD Yz0 b27) b28) b29, cell_step (cell_step (cell_stepD Yz1 b27) b28) b29, cell_step (cell_step (cell_stepD Yz2 b27) b28) b29, cell_step (cell_step (cell_stepD Yz3 b27) b28) b29, cell_step (cell_step (cell_stepD Yz4 b27) b28) b29, cell_step (cell_step (cell_stepD Yz5 b27) b28) b29⟩ | exact ⟨cell_low (cell_low (cell_low (cell_step (cell_step (cell_stepD Yx0 b27) b28) b29) (by first | (simp; done) | (simp; omega) | omega)) (by first | (simp; done) | (simp; omega) | omega)) (by first | (simp; done) | (simp; omega) | omega), cell_low (cell_low (cell_low (cell_step (cell_step (cell_stepD Yx1 b27) b28) b29) (by first | (simp; done) | (simp; omega) | omega)) (by first | (simp; done) | (simp; omega) | omega)) (by first | (simp; done) | (simp; omega) | omega), cell_low (cell_low (cell_low (cell_step (cell_step (cell_stepD Yx2 b27) b28) b29) (by first | (simp; done) | (simp; omega) | omega)) (by first | (simp; done) | (simp; omega) | omega)) (by first | (simp; done) | (simp; omega) | omega), cell_low (cell_low (cell_low (cell_step (cell_step (cell_stepD Yx3 b27) b28) b29) (by first | (simp; done) | (simp; omega) | omega)) (by first | (simp; done) | (simp; omega) | omega)) (by first | (simp; done) | (simp; omega) | omega), cell_low (cell_low (cell_low (cell_step (cell_step (cell_stepD Yx4 b27) b28) b29) (by first | (simp; done) | (simp; omega) | omega)) (by first | (simp; done) | (simp; omega) | omega)) (by first | (simp; done) | (simp; omega) | omega), cell_low (cell_low (cell_low (cell_step (cell_step (cell_stepD Yx5 b27) b28) b29) (by first | (simp; done) | (simp; omega) | omega)) (by first | (simp; done) | (simp; omega) | omega)) (by first | (simp; done) | (simp; omega) | omega), cell_low (cell_low (cell_low (cell_step (cell_step (cell_stepD Yy0 b27) b28) b29) (by first | (simp; done) | (simp; omega) | omega)) (by first | (simp; done) | (simp; omega) | omega)) (by first | (simp; done) | (simp; omega) | omega), cell_low (cell_low (cell_low (cell_step (cell_step (cell_stepD Yy1 b27) b28) b29) (by first | (simp; done) | (simp; omega) | omega)) (by first | (simp; done) | (simp; omega) | omega)) (by first | (simp; done) | (simp; omega) | omega), cell_low (cell_low (cell_low (cell_step (cell_step (cell_stepD Yy2 b27) b28) b29) (by first | (simp; done) | (simp; omega) | omega)) (by first | (simp; done) | (simp; omega) | omega)) (by first | (simp; done) | (simp; omega) | omega), cell_low (cell_low (cell_low (cell_step (cell_step (cell_stepD Yy3 b27) b28) b29) (by first | (simp; done) | (simp; omega) | omega)) (by first | (simp; done) | (simp; omega) | omega)) (by first | (simp; done) | (simp; omega) | omega), cell_low (cell_low (cell_low (cell_step (cell_step (cell_stepD Yy4 b27) b28) b29) (by first | (simp; done) | (simp; omega) | omega)) (by first | (simp; done) | (simp; omega) | omega)) (by first | (simp; done) | (simp; omega) | omega), cell_low (cell_low (cell_low (cell_step (cell_step (cell_stepD Yy5 b27) b28) b29) (by first | (simp; done) | (simp; omega) | omega)) (by first | (simp; done) | (simp; omega) | omega)) (by first | (simp; done) | (simp; omega) | omega), cell_low (cell_low (cell_low (cell_step (cell_step (cell_stepD Yz0 b27) b28) b29) (by first | (simp; done) | (simp; omega) | omega)) (by first | (simp; done) | (simp; omega) | omega)) (by first | (simp; done) | (simp; omega) | omega), cell_low (cell_low (cell_low (cell_step (cell_step (cell_stepD Yz1 b27) b28) b29) (by first | (simp; done) | (simp; omega) | omega)) (by first | (simp; done) | (simp; omega) | omega)) (by first | (simp; done) | (simp; omega) | omega), cell_low (cell_low (cell_low (cell_step (cell_step (cell_stepD Yz2 b27) b28) b29) (by first | (simp; done) | (simp; omega) | omega)) (by first | (simp; done) | (simp; omega) | omega)) (by first | (simp; done) | (simp; omega) | omega), cell_low (cell_low (cell_low (cell_step (cell_step (cell_stepD Yz3 b27) b28) b29) (by first | (simp; done) | (simp; omega) | omega)) (by first | (simp; done) | (simp; omega) | omega)) (by first | (simp; done) | (simp; omega) | omega), cell_low (cell_low (cell_low (cell_step (cell_step (cell_stepD Yz4 b27) b28) b29) (by first | (simp; done) | (simp; omega) | omega)) (by first | (simp; done) | (simp; omega) | omega)) (by first | (simp; done) | (simp; omega) | omega), cell_low (cell_low (cell_low (cell_step (cell_step (cell_stepD Yz5 b27) b28) b29) (by first | (simp; done) | (simp; omega) | omega)) (by first | (simp; done) | (simp; omega) | omega)) (by first | (simp; done) | (simp; omega) | omega)⟩))
    (first | (go_at_call 81; clear tok27; refine (implSubtractPoints_P q p R0 H0.out qa0 qc0 qa1 qc1 qa2 qc2 qa3 qc3 pa0 pc0 pa1 pc1 pa2 pc2 pa3 pc3 _ (qH0.out.below (B.out.drew)) (qH1.out.below (B.out.drew)) (qH2.out.below (B.out.drew)) (qH3.out.below (B.out.drew)) ql (pH0.out.below (B.out.drew)) (pH1.out.below (B.out.drew)) (pH2.out.below (B.out.drew)) (pH3.out.below (B.out.drew)) pl).mono ?_; rintro e W27 ⟨s0p0, s0d0, s0p1, s0d1, s0p2, s0d2, s0p3, s0d3, rfl, hO0, b27⟩; have s27 := b27.size; (try simp at s27)) | (go_at_call 81; clear tok28; refine (implSubtractPoints_P t p R1 H1.out ta0 tc0 ta1 tc1 ta2 tc2 ta3 tc3 pa0 pc0 pa1 pc1 pa2 pc2 pa3 pc3 _ (tH0.out.below (bstepD B.out b27)) (tH1.out.below (bstepD B.out b27)) (tH2.out.below (bstepD B.out b27)) (tH3.out.below (bstepD B.out b27)) tl (pH0.out.below (bstepD B.out b27)) (pH1.out.below (bstepD B.out b27)) (pH2.out.below (bstepD B.out b27)) (pH3.out.below (bstepD B.out b27)) pl).mono ?_; rintro e W28 ⟨s1p0, s1d0, s1p1, s1d1, s1p2, s1d2, s1p3, s1d3, rfl, hO1, b28⟩; have s28 := b28.size; (try simp at s28)) | (go_at_call 77; refine (implCross_P R0 R1 T H2.out s0p0 s0d0 s0p1 s0d1 s0p2 s0d2 s0p3 s0d3 s1p0 s1d0 s1p1 s1d1 s1p2 s1d2 s1p3 s1d3 _ (hO0.below b28).i1 (hO0.below b28).i2 (hO0.below b28).i3 (hO0.below b28).i4 l0 hO1.i1 hO1.i2 hO1.i3 hO1.i4 l1).mono ?_; rintro e W29 ⟨s2p0, s2d0, s2p1, s2d1, rfl, hO2, b29⟩; have s29 := b29.size; (try simp at s29); have Rr := (box_step (box_step (box_step (box_drew Rr) b27) b28) b29); have Yr0 := Rr.cell 0 rfl; have Fr0 := Rr.frozen 0; have Yr1 := Rr.cell 1 rfl; have Fr1 := Rr.frozen 1; have Yr2 := Rr.cell 2 rfl; have Fr2 := Rr.frozen 2; have Lr := Rr.lt))
  have sb27 := b27.size
  try simp at sb27
  have sb28 := b28.size
  have sb29 := b29.size
  have O0 := Lib.hid (((hO0.below b28).below b29))
  clear hO0
  have O1 := Lib.hid ((hO1.below b29))
  clear hO1
  have O2 := Lib.hid (hO2)
  clear hO2
  have B := Lib.hid (bstep (bstep (bstepD B.out b27) b28) b29)
  clear b27 b28 b29
  go_wp2
  refine bodyPost_ret (v := .agg #[.bool T.neg, .slice s2p0 T.num.length s2d0, .slice s2p1 T.den.length s2d1]) (by simp [results, Try.results83, go_sem, Yr0, Yr1, Yr2, Lr]) rfl ⟨s2p0, s2d0, s2p1, s2d1, rfl, rat_endR (by first | omega | (simp; done) | (simp; omega)) (by first | omega | (simp; done) | (simp; omega)) O2.out (by first | omega | (simp; done) | (simp; omega)) B.out _ _ _⟩

set_option maxRecDepth 100000 in
set_option maxHeartbeats 4000000 in
theorem implMiddle_P (p : PT) (q : PT) (T : PT) (hT : middlePT p q = T) (pa0 : Option Addr) (pc0 : Nat) (pa1 : Option Addr) (pc1 : Nat) (pa2 : Option Addr) (pc2 : Nat) (pa3 : Option Addr) (pc3 : Nat) (qa0 : Option Addr) (qc0 : Nat) (qa1 : Option Addr) (qc1 : Nat) (qa2 : Option Addr) (qc2 : Nat) (qa3 : Option Addr) (qc3 : Nat) (w : World) (pi0 : IntsAt w pa0 pc0 p.x.num) (pi1 : IntsAt w pa1 pc1 p.x.den) (pi2 : IntsAt w pa2 pc2 p.y.num) (pi3 : IntsAt w pa3 pc3 p.y.den) (pl : LenPT p) (qi0 : IntsAt w qa0 qc0 q.x.num) (qi1 : IntsAt w qa1 qc1 q.x.den) (qi2 : IntsAt w qa2 qc2 q.y.num) (qi3 : IntsAt w qa3 qc3 q.y.den) (ql : LenPT q) : Calls Try.prog 85 #[.agg #[.bool p.x.neg, .slice pa0 p.x.num.length pc0, .slice pa1 p.x.den.length pc1, .bool p.y.neg, .slice pa2 p.y.num.length pc2, .slice pa3 p.y.den.length pc3], .agg #[.bool q.x.neg, .slice qa0 q.x.num.length qc0, .slice qa1 q.x.den.length qc1, .bool q.y.neg, .slice qa2 q.y.num.length qc2, .slice qa3 q.y.den.length qc3]] w (PtRet w T) := by
  obtain ⟨R0, h0⟩ : ∃ R, ratOfP 1 2  = R := ⟨_, rfl⟩
  have o0 : RaOr R0 := by rw [← h0]; exact raOr_of _ _
  have l0 := o0.len'
  have H0 := Lib.hid h0
  obtain ⟨R1, h1⟩ : ∃ R, addPT p q = R := ⟨_, rfl⟩
  have o1 : PtOr R1 := by rw [← h1]; exact ptOr_add _ _
  have l1 := o1.len'
  have H1 := Lib.hid h1
  have H2 : Hid (scalePT R0 R1 = T) := by unfold Hid; rw [← hT, ← h0, ← h1]; rfl
  clear hT h0 h1
  have pH0 := Lib.hid pi0
  have pH1 := Lib.hid pi1
  have pH2 := Lib.hid pi2
  have pH3 := Lib.hid pi3
  have qH0 := Lib.hid qi0
  have qH1 := Lib.hid qi1
  have qH2 := Lib.hid qi2
  have qH3 := Lib.hid qi3
  clear pi0 pi1 pi2 pi3 qi0 qi1 qi2 qi3
  have BR : Below (((w.alloc (.cells #[.bool p.x.neg, .slice pa0 p.x.num.length pc0, .slice pa1 p.x.den.length pc1, .bool p.y.neg, .slice pa2 p.y.num.length pc2, .slice pa3 p.y.den.length pc3] 32)).alloc (.cells #[.bool q.x.neg, .slice qa0 q.x.num.length qc0, .slice qa1 q.x.den.length qc1, .bool q.y.neg, .slice qa2 q.y.num.length qc2, .slice qa3 q.y.den.length qc3] 32)).alloc (.cells #[.bool false, .slice none 0 0, .slice none 0 0, .bool false, .slice none 0 0, .slice none 0 0] 32)).heap.size (((w.alloc (.cells #[.bool p.x.neg, .slice pa0 p.x.num.length pc0, .slice pa1 p.x.den.length pc1, .bool p.y.neg, .slice pa2 p.y.num.length pc2, .slice pa3 p.y.den.length pc3] 32)).alloc (.cells #[.bool q.x.neg, .slice qa0 q.x.num.length qc0, .slice qa1 q.x.den.length qc1, .bool q.y.neg, .slice qa2 q.y.num.length qc2, .slice qa3 q.y.den.length qc3] 32)).alloc (.cells #[.bool false, .slice none 0 0, .slice none 0 0, .bool false, .slice none 0 0, .slice none 0 0] 32)) (((w.alloc (.cells #[.bool p.x.neg, .slice pa0 p.x.num.length pc0, .slice pa1 p.x.den.length pc1, .bool p.y.neg, .slice pa2 p.y.num.length pc2, .slice pa3 p.y.den.length pc3] 32)).alloc (.cells #[.bool q.x.neg, .slice qa0 q.x.num.length qc0, .slice qa1 q.x.den.length qc1, .bool q.y.neg, .slice qa2 q.y.num.length qc2, .slice qa3 q.y.den.length qc3] 32)).alloc (.cells #[.bool false, .slice none 0 0, .slice none 0 0, .bool false, .slice none 0 0, .slice none 0 0] 32)) := Below.refl _ _
  have Rx := bx3_0 BR
  have Ry := bx3_1 BR
  have Rr := bx3_2 BR
  have B : Hid (Below w.heap.size w (((w.alloc (.cells #[.bool p.x.neg, .slice pa0 p.x.num.length pc0, .slice pa1 p.x.den.length pc1, .bool p.y.neg, .slice pa2 p.y.num.length pc2, .slice pa3 p.y.den.length pc3] 32)).alloc (.cells #[.bool q.x.neg, .slice qa0 q.x.num.length qc0, .slice qa1 q.x.den.length qc1, .bool q.y.neg, .slice qa2 q.y.num.length qc2, .slice qa3 q.y.den.length qc3] 32)).alloc (.cells #[.bool false, .slice none 0 0, .slice none 0 0, .bool false, .slice none 0 0, .slice none 0 0] 32))) := Lib.hid (ba3 _ _ _ _)
  have Yx0 := Rx.c0
  have Yx1 := Rx.c1
  have Yx2 := Rx.c2
  have Yx3 := Rx.c3
  have Yx4 := Rx.c4
  have Yx5 := Rx.c5
  have Yy0 := Ry.c0
  have Yy1 := Ry.c1
  have Yy2 := Ry.c2
  have Yy3 := Ry.c3
  have Yy4 := Ry.c4
  have Yy5 := Ry.c5
  have Yr0 := Rr.c0
  have Yr1 := Rr.c1
  have Yr2 := Rr.c2
  have Yr3 := Rr.c3
  have Yr4 := Rr.c4
  have Yr5 := Rr.c5
  clear BR
  go_enter Try.func85, Try.ntmps85
  go_wp2_with fail
  go_region_held3 (fun w' => w'.cell? ⟨w.heap.size, 0, none⟩ = some (.bool p.x.neg) ∧ w'.cell? ⟨w.heap.size, 1, none⟩ = some (.slice pa0 p.x.num.length pc0) ∧ w'.cell? ⟨w.heap.size, 2, none⟩ = some (.slice pa1 p.x.den.length pc1) ∧ w'.cell? ⟨w.heap.size, 3, none⟩ = some (.bool p.y.neg) ∧ w'.cell? ⟨w.heap.size, 4, none⟩ = some (.slice pa2 p.y.num.length pc2) ∧ w'.cell? ⟨w.heap.size, 5, none⟩ = some (.slice pa3 p.y.den.length pc3) ∧ w'.cell? ⟨w.heap.size + 1, 0, none⟩ = some (.bool q.x.neg) ∧ w'.cell? ⟨w.heap.size + 1, 1, none⟩ = some (.slice qa0 q.x.num.length qc0) ∧ w'.cell? ⟨w.heap.size + 1, 2, none⟩ = some (.slice qa1 q.x.den.length qc1) ∧ w'.cell? ⟨w.heap.size + 1, 3, none⟩ = some (.bool q.y.neg) ∧ w'.cell? ⟨w.heap.size + 1, 4, none⟩ = some (.slice qa2 q.y.num.length qc2) ∧ w'.cell? ⟨w.heap.size + 1, 5, none⟩ = some (.slice qa3 q.y.den.length qc3))
    ((refine ⟨?_, ?_, ?_, ?_, ?_, ?_, ?_, ?_, ?_, ?_, ?_, ?_⟩ <;> (repeat first | with_reducible assumption | with_reducible refine cell_low ?_ (by first | (simp; done) | (simp; omega) | omega) | with_reducible refine cell_step ?_ b30 | with_reducible refine cell_step ?_ b31 | with_reducible refine cell_step ?_ b32 | with_reducible refine cell_dr ?_)))
    (first | (go_at_call 47; refine (implRatOf12 R0 H0.out _).mono ?_; rintro e W30 ⟨s0p0, s0d0, s0p1, s0d1, rfl, hO0, b30⟩; have s30 := b30.size; (try simp at s30)) | (go_at_call 79; refine (implAddPoints_P p q R1 H1.out pa0 pc0 pa1 pc1 pa2 pc2 pa3 pc3 qa0 qc0 qa1 qc1 qa2 qc2 qa3 qc3 _ (pH0.out.below (bstepD B.out b30)) (pH1.out.below (bstepD B.out b30)) (pH2.out.below (bstepD B.out b30)) (pH3.out.below (bstepD B.out b30)) pl (qH0.out.below (bstepD B.out b30)) (qH1.out.below (bstepD B.out b30)) (qH2.out.below (bstepD B.out b30)) (qH3.out.below (bstepD B.out b30)) ql).mono ?_; rintro e W31 ⟨s1p0, s1d0, s1p1, s1d1, s1p2, s1d2, s1p3, s1d3, rfl, hO1, b31⟩; have s31 := b31.size; (try simp at s31)) | (go_at_call 69; refine (implScalePoint_P R0 R1 T H2.out s0p0 s0d0 s0p1 s0d1 s1p0 s1d0 s1p1 s1d1 s1p2 s1d2 s1p3 s1d3 _ (hO0.below b31).i1 (hO0.below b31).i2 l0 hO1.i1 hO1.i2 hO1.i3 hO1.i4 l1).mono ?_; rintro e W32 ⟨s2p0, s2d0, s2p1, s2d1, s2p2, s2d2, s2p3, s2d3, rfl, hO2, b32⟩; have s32 := b32.size; (try simp at s32); have Rr := (box_step (box_step (box_step (box_drew Rr) b30) b31) b32); have Yr0 := Rr.cell 0 rfl; have Fr0 := Rr.frozen 0; have Yr1 := Rr.cell 1 rfl; have Fr1 := Rr.frozen 1; have Yr2 := Rr.cell 2 rfl; have Fr2 := Rr.frozen 2; have Yr3 := Rr.cell 3 rfl; have Fr3 := Rr.frozen 3; have Yr4 := Rr.cell 4 rfl; have Fr4 := Rr.frozen 4; have Yr5 := Rr.cell 5 rfl; have Fr5 := Rr.frozen 5; have Lr := Rr.lt))
  have sb30 := b30.size
  try simp at sb30
  have sb31 := b31.size
  have sb32 := b32.size
  have O0 := Lib.hid (((hO0.below b31).below b32))
  clear hO0
  have O1 := Lib.hid ((hO1.below b32))
  clear hO1
  have O2 := Lib.hid (hO2)
  clear hO2
  have B := Lib.hid (bstep (bstep (bstepD B.out b30) b31) b32)
  clear b30 b31 b32
  go_wp2
  refine bodyPost_ret (v := .agg #[.bool T.x.neg, .slice s2p0 T.x.num.length s2d0, .slice s2p1 T.x.den.length s2d1, .bool T.y.neg, .slice s2p2 T.y.num.length s2d2, .slice s2p3 T.y.den.length s2d3]) (by simp [results, Try.results85, go_sem, Yr0, Yr1, Yr2, Yr3, Yr4, Yr5, Lr]) rfl ⟨s2p0, s2d0, s2p1, s2d1, s2p2, s2d2, s2p3, s2d3, rfl, point_endR (by first | omega | (simp; done) | (simp; omega)) (by first | omega | (simp; done) | (simp; omega)) O2.out (by first | omega | (simp; done) | (simp; omega)) B.out⟩

theorem implAddPoints_any (n0 : Bool) (a00 : Option Addr) (c00 : Nat) (x00 : List Int) (a01 : Option Addr) (c01 : Nat) (x01 : List Int) (m0 : Bool) (a02 : Option Addr) (c02 : Nat) (x02 : List Int) (a03 : Option Addr) (c03 : Nat) (x03 : List Int) (n1 : Bool) (a10 : Option Addr) (c10 : Nat) (x10 : List Int) (a11 : Option Addr) (c11 : Nat) (x11 : List Int) (m1 : Bool) (a12 : Option Addr) (c12 : Nat) (x12 : List Int) (a13 : Option Addr) (c13 : Nat) (x13 : List Int) (w : World) (i00 : IntsAt w a00 c00 x00) (l00 : x00.length ≤ 1048576) (i01 : IntsAt w a01 c01 x01) (l01 : x01.length ≤ 1048576) (i02 : IntsAt w a02 c02 x02) (l02 : x02.length ≤ 1048576) (i03 : IntsAt w a03 c03 x03) (l03 : x03.length ≤ 1048576) (i10 : IntsAt w a10 c10 x10) (l10 : x10.length ≤ 1048576) (i11 : IntsAt w a11 c11 x11) (l11 : x11.length ≤ 1048576) (i12 : IntsAt w a12 c12 x12) (l12 : x12.length ≤ 1048576) (i13 : IntsAt w a13 c13 x13) (l13 : x13.length ≤ 1048576) : Calls Try.prog 79 #[.agg #[.bool n0, .slice a00 x00.length c00, .slice a01 x01.length c01, .bool m0, .slice a02 x02.length c02, .slice a03 x03.length c03], .agg #[.bool n1, .slice a10 x10.length c10, .slice a11 x11.length c11, .bool m1, .slice a12 x12.length c12, .slice a13 x13.length c13]] w (PtRet w (addPT (pt n0 x00 x01 m0 x02 x03) (pt n1 x10 x11 m1 x12 x13))) :=
  implAddPoints_P (pt n0 x00 x01 m0 x02 x03) (pt n1 x10 x11 m1 x12 x13) _ rfl a00 c00 a01 c01 a02 c02 a03 c03 a10 c10 a11 c11 a12 c12 a13 c13 w i00 i01 i02 i03 ⟨⟨l00, l01⟩, ⟨l02, l03⟩⟩ i10 i11 i12 i13 ⟨⟨l10, l11⟩, ⟨l12, l13⟩⟩

theorem implSubtractPoints_any (n0 : Bool) (a00 : Option Addr) (c00 : Nat) (x00 : List Int) (a01 : Option Addr) (c01 : Nat) (x01 : List Int) (m0 : Bool) (a02 : Option Addr) (c02 : Nat) (x02 : List Int) (a03 : Option Addr) (c03 : Nat) (x03 : List Int) (n1 : Bool) (a10 : Option Addr) (c10 : Nat) (x10 : List Int) (a11 : Option Addr) (c11 : Nat) (x11 : List Int) (m1 : Bool) (a12 : Option Addr) (c12 : Nat) (x12 : List Int) (a13 : Option Addr) (c13 : Nat) (x13 : List Int) (w : World) (i00 : IntsAt w a00 c00 x00) (l00 : x00.length ≤ 1048576) (i01 : IntsAt w a01 c01 x01) (l01 : x01.length ≤ 1048576) (i02 : IntsAt w a02 c02 x02) (l02 : x02.length ≤ 1048576) (i03 : IntsAt w a03 c03 x03) (l03 : x03.length ≤ 1048576) (i10 : IntsAt w a10 c10 x10) (l10 : x10.length ≤ 1048576) (i11 : IntsAt w a11 c11 x11) (l11 : x11.length ≤ 1048576) (i12 : IntsAt w a12 c12 x12) (l12 : x12.length ≤ 1048576) (i13 : IntsAt w a13 c13 x13) (l13 : x13.length ≤ 1048576) : Calls Try.prog 81 #[.agg #[.bool n0, .slice a00 x00.length c00, .slice a01 x01.length c01, .bool m0, .slice a02 x02.length c02, .slice a03 x03.length c03], .agg #[.bool n1, .slice a10 x10.length c10, .slice a11 x11.length c11, .bool m1, .slice a12 x12.length c12, .slice a13 x13.length c13]] w (PtRet w (subPT (pt n0 x00 x01 m0 x02 x03) (pt n1 x10 x11 m1 x12 x13))) :=
  implSubtractPoints_P (pt n0 x00 x01 m0 x02 x03) (pt n1 x10 x11 m1 x12 x13) _ rfl a00 c00 a01 c01 a02 c02 a03 c03 a10 c10 a11 c11 a12 c12 a13 c13 w i00 i01 i02 i03 ⟨⟨l00, l01⟩, ⟨l02, l03⟩⟩ i10 i11 i12 i13 ⟨⟨l10, l11⟩, ⟨l12, l13⟩⟩

theorem implScalePoint_any (n0 : Bool) (a00 : Option Addr) (c00 : Nat) (x00 : List Int) (a01 : Option Addr) (c01 : Nat) (x01 : List Int) (n1 : Bool) (a10 : Option Addr) (c10 : Nat) (x10 : List Int) (a11 : Option Addr) (c11 : Nat) (x11 : List Int) (m1 : Bool) (a12 : Option Addr) (c12 : Nat) (x12 : List Int) (a13 : Option Addr) (c13 : Nat) (x13 : List Int) (w : World) (i00 : IntsAt w a00 c00 x00) (l00 : x00.length ≤ 1048576) (i01 : IntsAt w a01 c01 x01) (l01 : x01.length ≤ 1048576) (i10 : IntsAt w a10 c10 x10) (l10 : x10.length ≤ 1048576) (i11 : IntsAt w a11 c11 x11) (l11 : x11.length ≤ 1048576) (i12 : IntsAt w a12 c12 x12) (l12 : x12.length ≤ 1048576) (i13 : IntsAt w a13 c13 x13) (l13 : x13.length ≤ 1048576) : Calls Try.prog 69 #[.agg #[.bool n0, .slice a00 x00.length c00, .slice a01 x01.length c01], .agg #[.bool n1, .slice a10 x10.length c10, .slice a11 x11.length c11, .bool m1, .slice a12 x12.length c12, .slice a13 x13.length c13]] w (PtRet w (scalePT ⟨n0, x00, x01⟩ (pt n1 x10 x11 m1 x12 x13))) :=
  implScalePoint_P ⟨n0, x00, x01⟩ (pt n1 x10 x11 m1 x12 x13) _ rfl a00 c00 a01 c01 a10 c10 a11 c11 a12 c12 a13 c13 w i00 i01 ⟨l00, l01⟩ i10 i11 i12 i13 ⟨⟨l10, l11⟩, ⟨l12, l13⟩⟩

theorem implInner_any (n0 : Bool) (a00 : Option Addr) (c00 : Nat) (x00 : List Int) (a01 : Option Addr) (c01 : Nat) (x01 : List Int) (m0 : Bool) (a02 : Option Addr) (c02 : Nat) (x02 : List Int) (a03 : Option Addr) (c03 : Nat) (x03 : List Int) (n1 : Bool) (a10 : Option Addr) (c10 : Nat) (x10 : List Int) (a11 : Option Addr) (c11 : Nat) (x11 : List Int) (m1 : Bool) (a12 : Option Addr) (c12 : Nat) (x12 : List Int) (a13 : Option Addr) (c13 : Nat) (x13 : List Int) (w : World) (i00 : IntsAt w a00 c00 x00) (l00 : x00.length ≤ 1048576) (i01 : IntsAt w a01 c01 x01) (l01 : x01.length ≤ 1048576) (i02 : IntsAt w a02 c02 x02) (l02 : x02.length ≤ 1048576) (i03 : IntsAt w a03 c03 x03) (l03 : x03.length ≤ 1048576) (i10 : IntsAt w a10 c10 x10) (l10 : x10.length ≤ 1048576) (i11 : IntsAt w a11 c11 x11) (l11 : x11.length ≤ 1048576) (i12 : IntsAt w a12 c12 x12) (l12 : x12.length ≤ 1048576) (i13 : IntsAt w a13 c13 x13) (l13 : x13.length ≤ 1048576) : Calls Try.prog 75 #[.agg #[.bool n0, .slice a00 x00.length c00, .slice a01 x01.length c01, .bool m0, .slice a02 x02.length c02, .slice a03 x03.length c03], .agg #[.bool n1, .slice a10 x10.length c10, .slice a11 x11.length c11, .bool m1, .slice a12 x12.length c12, .slice a13 x13.length c13]] w (RatRet w (innerPT (pt n0 x00 x01 m0 x02 x03) (pt n1 x10 x11 m1 x12 x13))) :=
  implInner_P (pt n0 x00 x01 m0 x02 x03) (pt n1 x10 x11 m1 x12 x13) _ rfl a00 c00 a01 c01 a02 c02 a03 c03 a10 c10 a11 c11 a12 c12 a13 c13 w i00 i01 i02 i03 ⟨⟨l00, l01⟩, ⟨l02, l03⟩⟩ i10 i11 i12 i13 ⟨⟨l10, l11⟩, ⟨l12, l13⟩⟩

theorem implCross_any (n0 : Bool) (a00 : Option Addr) (c00 : Nat) (x00 : List Int) (a01 : Option Addr) (c01 : Nat) (x01 : List Int) (m0 : Bool) (a02 : Option Addr) (c02 : Nat) (x02 : List Int) (a03 : Option Addr) (c03 : Nat) (x03 : List Int) (n1 : Bool) (a10 : Option Addr) (c10 : Nat) (x10 : List Int) (a11 : Option Addr) (c11 : Nat) (x11 : List Int) (m1 : Bool) (a12 : Option Addr) (c12 : Nat) (x12 : List Int) (a13 : Option Addr) (c13 : Nat) (x13 : List Int) (w : World) (i00 : IntsAt w a00 c00 x00) (l00 : x00.length ≤ 1048576) (i01 : IntsAt w a01 c01 x01) (l01 : x01.length ≤ 1048576) (i02 : IntsAt w a02 c02 x02) (l02 : x02.length ≤ 1048576) (i03 : IntsAt w a03 c03 x03) (l03 : x03.length ≤ 1048576) (i10 : IntsAt w a10 c10 x10) (l10 : x10.length ≤ 1048576) (i11 : IntsAt w a11 c11 x11) (l11 : x11.length ≤ 1048576) (i12 : IntsAt w a12 c12 x12) (l12 : x12.length ≤ 1048576) (i13 : IntsAt w a13 c13 x13) (l13 : x13.length ≤ 1048576) : Calls Try.prog 77 #[.agg #[.bool n0, .slice a00 x00.length c00, .slice a01 x01.length c01, .bool m0, .slice a02 x02.length c02, .slice a03 x03.length c03], .agg #[.bool n1, .slice a10 x10.length c10, .slice a11 x11.length c11, .bool m1, .slice a12 x12.length c12, .slice a13 x13.length c13]] w (RatRet w (crossPT (pt n0 x00 x01 m0 x02 x03) (pt n1 x10 x11 m1 x12 x13))) :=
  implCross_P (pt n0 x00 x01 m0 x02 x03) (pt n1 x10 x11 m1 x12 x13) _ rfl a00 c00 a01 c01 a02 c02 a03 c03 a10 c10 a11 c11 a12 c12 a13 c13 w i00 i01 i02 i03 ⟨⟨l00, l01⟩, ⟨l02, l03⟩⟩ i10 i11 i12 i13 ⟨⟨l10, l11⟩, ⟨l12, l13⟩⟩

theorem implDoubleArea_any (n0 : Bool) (a00 : Option Addr) (c00 : Nat) (x00 : List Int) (a01 : Option Addr) (c01 : Nat) (x01 : List Int) (m0 : Bool) (a02 : Option Addr) (c02 : Nat) (x02 : List Int) (a03 : Option Addr) (c03 : Nat) (x03 : List Int) (n1 : Bool) (a10 : Option Addr) (c10 : Nat) (x10 : List Int) (a11 : Option Addr) (c11 : Nat) (x11 : List Int) (m1 : Bool) (a12 : Option Addr) (c12 : Nat) (x12 : List Int) (a13 : Option Addr) (c13 : Nat) (x13 : List Int) (n2 : Bool) (a20 : Option Addr) (c20 : Nat) (x20 : List Int) (a21 : Option Addr) (c21 : Nat) (x21 : List Int) (m2 : Bool) (a22 : Option Addr) (c22 : Nat) (x22 : List Int) (a23 : Option Addr) (c23 : Nat) (x23 : List Int) (w : World) (i00 : IntsAt w a00 c00 x00) (l00 : x00.length ≤ 1048576) (i01 : IntsAt w a01 c01 x01) (l01 : x01.length ≤ 1048576) (i02 : IntsAt w a02 c02 x02) (l02 : x02.length ≤ 1048576) (i03 : IntsAt w a03 c03 x03) (l03 : x03.length ≤ 1048576) (i10 : IntsAt w a10 c10 x10) (l10 : x10.length ≤ 1048576) (i11 : IntsAt w a11 c11 x11) (l11 : x11.length ≤ 1048576) (i12 : IntsAt w a12 c12 x12) (l12 : x12.length ≤ 1048576) (i13 : IntsAt w a13 c13 x13) (l13 : x13.length ≤ 1048576) (i20 : IntsAt w a20 c20 x20) (l20 : x20.length ≤ 1048576) (i21 : IntsAt w a21 c21 x21) (l21 : x21.length ≤ 1048576) (i22 : IntsAt w a22 c22 x22) (l22 : x22.length ≤ 1048576) (i23 : IntsAt w a23 c23 x23) (l23 : x23.length ≤ 1048576) : Calls Try.prog 83 #[.agg #[.bool n0, .slice a00 x00.length c00, .slice a01 x01.length c01, .bool m0, .slice a02 x02.length c02, .slice a03 x03.length c03], .agg #[.bool n1, .slice a10 x10.length c10, .slice a11 x11.length c11, .bool m1, .slice a12 x12.length c12, .slice a13 x13.length c13], .agg #[.bool n2, .slice a20 x20.length c20, .slice a21 x21.length c21, .bool m2, .slice a22 x22.length c22, .slice a23 x23.length c23]] w (RatRet w (areaPT (pt n0 x00 x01 m0 x02 x03) (pt n1 x10 x11 m1 x12 x13) (pt n2 x20 x21 m2 x22 x23))) :=
  implDoubleArea_P (pt n0 x00 x01 m0 x02 x03) (pt n1 x10 x11 m1 x12 x13) (pt n2 x20 x21 m2 x22 x23) _ rfl a00 c00 a01 c01 a02 c02 a03 c03 a10 c10 a11 c11 a12 c12 a13 c13 a20 c20 a21 c21 a22 c22 a23 c23 w i00 i01 i02 i03 ⟨⟨l00, l01⟩, ⟨l02, l03⟩⟩ i10 i11 i12 i13 ⟨⟨l10, l11⟩, ⟨l12, l13⟩⟩ i20 i21 i22 i23 ⟨⟨l20, l21⟩, ⟨l22, l23⟩⟩

theorem implMiddle_any (n0 : Bool) (a00 : Option Addr) (c00 : Nat) (x00 : List Int) (a01 : Option Addr) (c01 : Nat) (x01 : List Int) (m0 : Bool) (a02 : Option Addr) (c02 : Nat) (x02 : List Int) (a03 : Option Addr) (c03 : Nat) (x03 : List Int) (n1 : Bool) (a10 : Option Addr) (c10 : Nat) (x10 : List Int) (a11 : Option Addr) (c11 : Nat) (x11 : List Int) (m1 : Bool) (a12 : Option Addr) (c12 : Nat) (x12 : List Int) (a13 : Option Addr) (c13 : Nat) (x13 : List Int) (w : World) (i00 : IntsAt w a00 c00 x00) (l00 : x00.length ≤ 1048576) (i01 : IntsAt w a01 c01 x01) (l01 : x01.length ≤ 1048576) (i02 : IntsAt w a02 c02 x02) (l02 : x02.length ≤ 1048576) (i03 : IntsAt w a03 c03 x03) (l03 : x03.length ≤ 1048576) (i10 : IntsAt w a10 c10 x10) (l10 : x10.length ≤ 1048576) (i11 : IntsAt w a11 c11 x11) (l11 : x11.length ≤ 1048576) (i12 : IntsAt w a12 c12 x12) (l12 : x12.length ≤ 1048576) (i13 : IntsAt w a13 c13 x13) (l13 : x13.length ≤ 1048576) : Calls Try.prog 85 #[.agg #[.bool n0, .slice a00 x00.length c00, .slice a01 x01.length c01, .bool m0, .slice a02 x02.length c02, .slice a03 x03.length c03], .agg #[.bool n1, .slice a10 x10.length c10, .slice a11 x11.length c11, .bool m1, .slice a12 x12.length c12, .slice a13 x13.length c13]] w (PtRet w (middlePT (pt n0 x00 x01 m0 x02 x03) (pt n1 x10 x11 m1 x12 x13))) :=
  implMiddle_P (pt n0 x00 x01 m0 x02 x03) (pt n1 x10 x11 m1 x12 x13) _ rfl a00 c00 a01 c01 a02 c02 a03 c03 a10 c10 a11 c11 a12 c12 a13 c13 w i00 i01 i02 i03 ⟨⟨l00, l01⟩, ⟨l02, l03⟩⟩ i10 i11 i12 i13 ⟨⟨l10, l11⟩, ⟨l12, l13⟩⟩

end Go.Proofs.Ytlpnhcoaidmiiaa
