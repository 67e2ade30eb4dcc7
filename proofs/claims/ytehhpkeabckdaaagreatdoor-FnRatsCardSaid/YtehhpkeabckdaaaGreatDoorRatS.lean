/- Fractions: the reference's walks. -/
import Derived.Deep.RegionHeld3
import Derived.Deep.DeepCutAuto
import Derived.Test.YtehhpkeabckdaaaGreatDoorRatLow
namespace Go.Proofs.YtehhpkeabckdaaaGreatDoor
set_option linter.unusedVariables false
set_option linter.unusedSimpArgs false
open Go.RowKit
theorem bigOf_ofI (z : Int) : bigOf z = ofI z := by
  unfold bigOf mkBI ofI
  congr 1
  by_cases h : z < 0
  · have : 0 < (digs z.natAbs).length := digs_len_pos.2 (by omega)
    rw [decide_eq_true h, decide_eq_true this]; rfl
  · rw [decide_eq_false h]; rfl
theorem ratOf_make {x y : Int} (hx : In64 x) (hy : In64 y) : ratMakeP (bigOf x).neg (bigOf x).mag (bigOf y).neg (bigOf y).mag = ratOfP x y := by
  unfold ratMakeP ratOfP
  rw [bigOf_ofI, bigOf_ofI, ofI_ok (by have := digs3 hx; omega), ofI_ok (by have := digs3 hy; omega)]
  show mkRA (decide (x < 0) != decide (y < 0)) (val (digs x.natAbs)) (val (digs y.natAbs)) = _
  rw [val_digs, val_digs]
theorem ratLit_end {w w2 : World} {lo R : Nat} {u : Value} {xs : List Int} (hR : w.heap.size ≤ R) (hlo : R < lo) (h : FrI w2 lo u xs) (hw : w.heap.size ≤ lo) (b : Below w.heap.size w w2) (u0 u1 u2 : Value) :
    TwoF ((((w2.setCell ⟨R, 0, none⟩ u0).setCell ⟨R, 1, none⟩ u1).setCell ⟨R, 2, none⟩ u2).alloc (.cells #[.int .i64 1] 3)) w.heap.size u (.slice (some ⟨w2.heap.size, 0, none⟩) 1 1) xs [1] ∧
      Below w.heap.size w ((((w2.setCell ⟨R, 0, none⟩ u0).setCell ⟨R, 1, none⟩ u1).setCell ⟨R, 2, none⟩ u2).alloc (.cells #[.int .i64 1] 3)) := by
  have hb := below_put (k := 2) (u := u2) (below_put (k := 1) (u := u1) (below_put (k := 0) (u := u0) b hR) hR) hR
  have hl := (own_one (((w2.setCell ⟨R, 0, none⟩ u0).setCell ⟨R, 1, none⟩ u1).setCell ⟨R, 2, none⟩ u2) (n := 1) (by unfold In64; omega)).toI.fr
  have e : (((w2.setCell ⟨R, 0, none⟩ u0).setCell ⟨R, 1, none⟩ u1).setCell ⟨R, 2, none⟩ u2).heap.size = w2.heap.size := by simp
  rw [e] at hl
  exact ⟨TwoF.of ((((h.put hlo).put hlo).put hlo).below (ba1 _ _)) hl hw b.size, bstep hb (ba1 _ _)⟩
theorem rok_rx {n : Bool} {xs ds : List Int} (h : ratOkB n xs ds = true) : Rng xs := ok_rng (bigOk_nat (ratOk_parts h).1)
theorem rok_rd {n : Bool} {xs ds : List Int} (h : ratOkB n xs ds = true) : Rng ds := ok_rng (ratOk_parts h).2.1
theorem rok_lx {n : Bool} {xs ds : List Int} (h : ratOkB n xs ds = true) : xs.length ≤ 24 := (ratOk_parts h).2.2.2.1
theorem rok_ld {n : Bool} {xs ds : List Int} (h : ratOkB n xs ds = true) : ds.length ≤ 24 := (ratOk_parts h).2.2.2.2.1
theorem l04Low_out (n : Bool) (a : Option Addr) (ca N : Nat) (b : Option Addr) (cb D : Nat) (w : World) (ha : IntsAt w a ca (digs N)) (hn : (digs N).length ≤ 400000) (hb : IntsAt w b cb (digs D)) (hm : (digs D).length ≤ 400000) :
    Calls Tryz.prog 85 #[.bool n, .slice a (digs N).length ca, .slice b (digs D).length cb] w (RatRetS w (mkRA n N D)) := by
  have h := l04Low_any n a ca (digs N) b cb (digs D) w ha hn hb hm (digs_rng _) (digs_rng _)
  rw [val_digs, val_digs] at h
  exact h
theorem l04One_l (b : Option Addr) (cb : Nat) (ds : List Int) (w : World) (hb : IntsAt w b cb ds) (hd : digs (val ds) = ds) : Calls Tryz.prog 102 #[.slice b ds.length cb] w fun e w' => e = .returned (.bool (decide (val ds = 1))) ∧ Below w.heap.size w w' := by
  have h := l04One_any b cb (val ds) w (by rw [hd]; exact hb)
  rw [hd] at h
  exact h
theorem toI_scale (n : Bool) (xs : List Int) (k : Nat) : toI n xs * (k : Int) = if n then -((val xs * k : Nat) : Int) else ((val xs * k : Nat) : Int) := by
  unfold toI
  cases n <;> simp [Int.neg_mul]

section
variable (n : Bool) (a : Option Addr) (ca : Nat) (xs : List Int) (m : Bool) (b : Option Addr) (cb : Nat) (ys : List Int) (w : World) (ha : IntsAt w a ca xs) (hn : xs.length ≤ 1048576) (hb : IntsAt w b cb ys) (hm : ys.length ≤ 1048576)
set_option maxHeartbeats 4000000 in
include ha hn hb hm in
theorem specRatMake_own : Calls Tryz.prog 65 #[.agg #[.bool n, .slice a xs.length ca], .agg #[.bool m, .slice b ys.length cb]] w (RatRetS w (ratMakeP n xs m ys)) := by
  have HA := Lib.hid ha
  have HB := Lib.hid hb
  clear ha hb
  by_cases h1 : bigOkB n xs = true
  · by_cases h2 : bigOkB m ys = true
    · have e : ratMakeP n xs m ys = mkRA (n != m) (val xs) (val ys) := by unfold ratMakeP; rw [h1, h2]; rfl
      rw [e]
      clear e
      have hl := ok_len (bigOk_nat h1)
      have hl2 := ok_len (bigOk_nat h2)
      have HX := Lib.hid (ok_rng (bigOk_nat h1))
      have HY := Lib.hid (ok_rng (bigOk_nat h2))
      obtain ⟨R, hR⟩ : ∃ R, R = mkRA (n != m) (val xs) (val ys) := ⟨_, rfl⟩
      have HR := Lib.hid hR
      rw [← hR]
      clear hR
      go_enter Tryz.func65, Tryz.ntmps65
      go_wp2_with fail
      refine (specBigIntOk_any n a ca xs _ (HA.out.below (ba3 _ _ _ _)) hn).mono ?_
      rintro e W1 ⟨rfl, b1⟩
      have Rx := bx3_0 b1
      have Ry := bx3_1 b1
      have Rr := bx3_2 b1
      have B := Lib.hid (bstep (ba3 _ _ _ _) b1)
      have sb1 := b1.size
      try simp at sb1
      have Yx0 := Rx.cell 0 rfl
      have Yx1 := Rx.cell 1 rfl
      have Lx := Rx.lt
      have Yy0 := Ry.cell 0 rfl
      have Yy1 := Ry.cell 1 rfl
      have Ly := Ry.lt
      have Yr0 := Rr.cell 0 rfl
      have Yr1 := Rr.cell 1 rfl
      have Yr2 := Rr.cell 2 rfl
      have Lr := Rr.lt
      have Fr0 := Rr.frozen 0
      have Fr1 := Rr.frozen 1
      have Fr2 := Rr.frozen 2
      clear b1
      go_wp2_with fail
      refine (specBigIntOk_any m b cb ys _ (HB.out.below B.out) hm).mono ?_
      rintro e W2 ⟨rfl, b2⟩
      clear Yx0 Yx1 Lx Yy0 Yy1 Ly Yr0 Yr1 Yr2 Lr Fr0 Fr1 Fr2
      have Rx := box_step Rx b2
      have Ry := box_step Ry b2
      have Rr := box_step Rr b2
      have B := Lib.hid (bstep B.out b2)
      have sb2 := b2.size
      have Yx0 := Rx.cell 0 rfl
      have Yx1 := Rx.cell 1 rfl
      have Lx := Rx.lt
      have Yy0 := Ry.cell 0 rfl
      have Yy1 := Ry.cell 1 rfl
      have Ly := Ry.lt
      have Yr0 := Rr.cell 0 rfl
      have Yr1 := Rr.cell 1 rfl
      have Yr2 := Rr.cell 2 rfl
      have Lr := Rr.lt
      have Fr0 := Rr.frozen 0
      have Fr1 := Rr.frozen 1
      have Fr2 := Rr.frozen 2
      clear b2
      go_wp2_with fail
      refine ((HR.out.symm ▸ l04Low_any (n != m) a ca xs b cb ys _ (HA.out.below B.out) (by omega) (HB.out.below B.out) (by omega) HX.out HY.out)).mono ?_
      rintro e W3 ⟨p, c, p2, c2, rfl, hO, b3⟩
      clear Yx0 Yx1 Lx Yy0 Yy1 Ly Yr0 Yr1 Yr2 Lr Fr0 Fr1 Fr2
      have Rx := box_step Rx b3
      have Ry := box_step Ry b3
      have Rr := box_step Rr b3
      have B := Lib.hid (bstep B.out b3)
      have sb3 := b3.size
      have O := Lib.hid hO
      clear hO
      have Yx0 := Rx.cell 0 rfl
      have Yx1 := Rx.cell 1 rfl
      have Lx := Rx.lt
      have Yy0 := Ry.cell 0 rfl
      have Yy1 := Ry.cell 1 rfl
      have Ly := Ry.lt
      have Yr0 := Rr.cell 0 rfl
      have Yr1 := Rr.cell 1 rfl
      have Yr2 := Rr.cell 2 rfl
      have Lr := Rr.lt
      have Fr0 := Rr.frozen 0
      have Fr1 := Rr.frozen 1
      have Fr2 := Rr.frozen 2
      clear b3
      go_wp2
      refine bodyPost_ret (v := .agg #[.bool R.neg, .slice p R.num.length c, .slice p2 R.den.length c2]) (by simp [results, Tryz.results65, go_sem, Yr0, Yr1, Yr2, Lr]) rfl ⟨p, c, p2, c2, rfl, ratF_end (by first | omega | (simp; done) | (simp; omega)) (by first | omega | (simp; done) | (simp; omega)) O.out B.out _ _ _⟩
    · have h2' := Bool.eq_false_iff.2 h2
      have e : ratMakeP n xs m ys = zeroRA := by unfold ratMakeP; rw [h2']; simp
      rw [e]
      go_enter Tryz.func65, Tryz.ntmps65
      go_wp2_with fail
      refine (specBigIntOk_any n a ca xs _ (HA.out.below (ba3 _ _ _ _)) hn).mono ?_
      rintro e W4 ⟨rfl, b4⟩
      have Rx := bx3_0 b4
      have Ry := bx3_1 b4
      have Rr := bx3_2 b4
      have B := Lib.hid (bstep (ba3 _ _ _ _) b4)
      have sb4 := b4.size
      try simp at sb4
      have Yx0 := Rx.cell 0 rfl
      have Yx1 := Rx.cell 1 rfl
      have Lx := Rx.lt
      have Yy0 := Ry.cell 0 rfl
      have Yy1 := Ry.cell 1 rfl
      have Ly := Ry.lt
      have Yr0 := Rr.cell 0 rfl
      have Yr1 := Rr.cell 1 rfl
      have Yr2 := Rr.cell 2 rfl
      have Lr := Rr.lt
      have Fr0 := Rr.frozen 0
      have Fr1 := Rr.frozen 1
      have Fr2 := Rr.frozen 2
      clear b4
      go_wp2_with fail
      refine (specBigIntOk_any m b cb ys _ (HB.out.below B.out) hm).mono ?_
      rintro e W5 ⟨rfl, b5⟩
      clear Yx0 Yx1 Lx Yy0 Yy1 Ly Yr0 Yr1 Yr2 Lr Fr0 Fr1 Fr2
      have Rx := box_step Rx b5
      have Ry := box_step Ry b5
      have Rr := box_step Rr b5
      have B := Lib.hid (bstep B.out b5)
      have sb5 := b5.size
      have Yx0 := Rx.cell 0 rfl
      have Yx1 := Rx.cell 1 rfl
      have Lx := Rx.lt
      have Yy0 := Ry.cell 0 rfl
      have Yy1 := Ry.cell 1 rfl
      have Ly := Ry.lt
      have Yr0 := Rr.cell 0 rfl
      have Yr1 := Rr.cell 1 rfl
      have Yr2 := Rr.cell 2 rfl
      have Lr := Rr.lt
      have Fr0 := Rr.frozen 0
      have Fr1 := Rr.frozen 1
      have Fr2 := Rr.frozen 2
      clear b5
      go_wp2
      refine bodyPost_ret (v := .agg #[.bool false, .slice none 0 0, .slice none 0 0]) (by simp [results, Tryz.results65, go_sem, Yr0, Yr1, Yr2, Lr]) rfl ⟨none, 0, none, 0, rfl, ratzF_end (by first | omega | (simp; done) | (simp; omega)) B.out _ _ _⟩
  · have h1' := Bool.eq_false_iff.2 h1
    have e : ratMakeP n xs m ys = zeroRA := by unfold ratMakeP; rw [h1']; rfl
    rw [e]
    go_enter Tryz.func65, Tryz.ntmps65
    go_wp2_with fail
    refine (specBigIntOk_any n a ca xs _ (HA.out.below (ba3 _ _ _ _)) hn).mono ?_
    rintro e W6 ⟨rfl, b6⟩
    have Rx := bx3_0 b6
    have Ry := bx3_1 b6
    have Rr := bx3_2 b6
    have B := Lib.hid (bstep (ba3 _ _ _ _) b6)
    have sb6 := b6.size
    try simp at sb6
    have Yx0 := Rx.cell 0 rfl
    have Yx1 := Rx.cell 1 rfl
    have Lx := Rx.lt
    have Yy0 := Ry.cell 0 rfl
    have Yy1 := Ry.cell 1 rfl
    have Ly := Ry.lt
    have Yr0 := Rr.cell 0 rfl
    have Yr1 := Rr.cell 1 rfl
    have Yr2 := Rr.cell 2 rfl
    have Lr := Rr.lt
    have Fr0 := Rr.frozen 0
    have Fr1 := Rr.frozen 1
    have Fr2 := Rr.frozen 2
    clear b6
    go_wp2
    refine bodyPost_ret (v := .agg #[.bool false, .slice none 0 0, .slice none 0 0]) (by simp [results, Tryz.results65, go_sem, Yr0, Yr1, Yr2, Lr]) rfl ⟨none, 0, none, 0, rfl, ratzF_end (by first | omega | (simp; done) | (simp; omega)) B.out _ _ _⟩

include ha hn hb hm in
theorem specRatMake_any : Calls Tryz.prog 65 #[.agg #[.bool n, .slice a xs.length ca], .agg #[.bool m, .slice b ys.length cb]] w fun e w' => ∃ p c p2 c2, e = .returned (.agg #[.bool (ratMakeP n xs m ys).neg, .slice p (ratMakeP n xs m ys).num.length c, .slice p2 (ratMakeP n xs m ys).den.length c2]) ∧ IntsAt w' p c (ratMakeP n xs m ys).num ∧ IntsAt w' p2 c2 (ratMakeP n xs m ys).den ∧ Below w.heap.size w w' :=
  (specRatMake_own n a ca xs m b cb ys w ha hn hb hm).mono fun _ _ ⟨p, c, p2, c2, h1, h2, h3⟩ => ⟨p, c, p2, c2, h1, h2.i1, h2.i2, h3⟩
end
section
variable (x y : Int) (w : World) (hx : In64 x) (hy : In64 y)
set_option maxHeartbeats 4000000 in
include hx hy in
theorem specRatOf_own : Calls Tryz.prog 38 #[.int .i64 x, .int .i64 y] w (RatRetS w (ratOfP x y)) := by
  have HX := Lib.hid hx
  have HY := Lib.hid hy
  have lx := bigOf_len x hx
  have ly := bigOf_len y hy
  have HE := Lib.hid (ratOf_make hx hy)
  clear hx hy
  go_enter Tryz.func38, Tryz.ntmps38
  go_wp2_with fail
  refine (specBigIntOf_own x _ HX.out).mono ?_
  rintro e W7 ⟨p, c, rfl, hO1, b7⟩
  have Rr := bx1_0 b7
  have B := Lib.hid (bstep (ba1 _ _) b7)
  have sb7 := b7.size
  try simp at sb7
  have O1 := Lib.hid hO1
  clear hO1
  have Yr0 := Rr.cell 0 rfl
  have Yr1 := Rr.cell 1 rfl
  have Yr2 := Rr.cell 2 rfl
  have Lr := Rr.lt
  have Fr0 := Rr.frozen 0
  have Fr1 := Rr.frozen 1
  have Fr2 := Rr.frozen 2
  clear b7
  go_wp2_with fail
  refine (specBigIntOf_own y _ HY.out).mono ?_
  rintro e W8 ⟨p2, c2, rfl, hO2, b8⟩
  clear Yr0 Yr1 Yr2 Lr Fr0 Fr1 Fr2
  have Rr := box_step Rr b8
  have B := Lib.hid (bstep B.out b8)
  have O1 := Lib.hid (O1.out.below b8)
  have sb8 := b8.size
  have O2 := Lib.hid hO2
  clear hO2
  have Yr0 := Rr.cell 0 rfl
  have Yr1 := Rr.cell 1 rfl
  have Yr2 := Rr.cell 2 rfl
  have Lr := Rr.lt
  have Fr0 := Rr.frozen 0
  have Fr1 := Rr.frozen 1
  have Fr2 := Rr.frozen 2
  clear b8
  go_wp2_with fail
  refine ((HE.out ▸ specRatMake_own (bigOf x).neg p c (bigOf x).mag (bigOf y).neg p2 c2 (bigOf y).mag _ O1.out.ints lx O2.out.ints ly)).mono ?_
  rintro e W9 ⟨p3, c3, p4, c4, rfl, hO, b9⟩
  clear Yr0 Yr1 Yr2 Lr Fr0 Fr1 Fr2
  have Rr := box_step Rr b9
  have B := Lib.hid (bstep B.out b9)
  have O1 := Lib.hid (O1.out.below b9)
  have O2 := Lib.hid (O2.out.below b9)
  have sb9 := b9.size
  have O := Lib.hid hO
  clear hO
  have Yr0 := Rr.cell 0 rfl
  have Yr1 := Rr.cell 1 rfl
  have Yr2 := Rr.cell 2 rfl
  have Lr := Rr.lt
  have Fr0 := Rr.frozen 0
  have Fr1 := Rr.frozen 1
  have Fr2 := Rr.frozen 2
  clear b9
  go_wp2
  refine bodyPost_ret (v := .agg #[.bool (ratOfP x y).neg, .slice p3 (ratOfP x y).num.length c3, .slice p4 (ratOfP x y).den.length c4]) (by simp [results, Tryz.results38, go_sem, Yr0, Yr1, Yr2, Lr]) rfl ⟨p3, c3, p4, c4, rfl, ratF_end (by first | omega | (simp; done) | (simp; omega)) (by first | omega | (simp; done) | (simp; omega)) O.out B.out _ _ _⟩

include hx hy in
theorem specRatOf_any : Calls Tryz.prog 38 #[.int .i64 x, .int .i64 y] w fun e w' => ∃ p c p2 c2, e = .returned (.agg #[.bool (ratOfP x y).neg, .slice p (ratOfP x y).num.length c, .slice p2 (ratOfP x y).den.length c2]) ∧ IntsAt w' p c (ratOfP x y).num ∧ IntsAt w' p2 c2 (ratOfP x y).den ∧ Below w.heap.size w w' :=
  (specRatOf_own x y w hx hy).mono fun _ _ ⟨p, c, p2, c2, h1, h2, h3⟩ => ⟨p, c, p2, c2, h1, h2.i1, h2.i2, h3⟩

end
section
variable (n : Bool) (a : Option Addr) (ca : Nat) (xs : List Int) (b : Option Addr) (cb : Nat) (ds : List Int) (w : World) (ha : IntsAt w a ca xs) (hn : xs.length ≤ 1048576) (hb : IntsAt w b cb ds) (hm : ds.length ≤ 1048576)
end
end Go.Proofs.YtehhpkeabckdaaaGreatDoor
