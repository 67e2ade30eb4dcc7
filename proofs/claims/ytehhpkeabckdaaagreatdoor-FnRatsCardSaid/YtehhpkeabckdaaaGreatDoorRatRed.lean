/- The program's lowest terms (reduced). -/
import Derived.Test.YtehhpkeabckdaaaGreatDoorRatF
import Derived.Test.YtehhpkeabckdaaaGreatDoorGcd
namespace Go.Proofs.YtehhpkeabckdaaaGreatDoor
set_option linter.unusedVariables false
set_option linter.unusedSimpArgs false
open Go.RowKit
theorem natGcd_out (a : Option Addr) (ca : Nat) (xs : List Int) (b : Option Addr) (cb : Nat) (ys : List Int) (g : Nat) (w : World) (ha : IntsAt w a ca xs) (hb : IntsAt w b cb ys) (hn : xs.length ≤ 400000) (hm : ys.length ≤ 400000) (hx : digs (val xs) = xs) (hy : digs (val ys) = ys) (hg : Nat.gcd (val xs) (val ys) = g) :
    Calls Tryz.prog 49 #[.slice a xs.length ca, .slice b ys.length cb] w fun e w' => ∃ p c, e = .returned (.slice p (digs g).length c) ∧ OwnI w' w.heap.size w'.heap.size (.slice p (digs g).length c) (digs g) ∧ Below w.heap.size w w' := by
  subst hg
  exact natGcd_any a ca xs b cb ys w ha hb hn hm hx hy
theorem natDiv_out (a : Option Addr) (ca : Nat) (xs : List Int) (b : Option Addr) (cb : Nat) (g X : Nat) (w : World) (ha : IntsAt w a ca xs) (hb : IntsAt w b cb (digs g)) (hn : xs.length ≤ 400000) (hm : (digs g).length ≤ 400000) (hx : digs (val xs) = xs) (h0 : 0 < g) (hg : val xs / g = X) :
    Calls Tryz.prog 64 #[.slice a xs.length ca, .slice b (digs g).length cb] w fun e w' => ∃ p c v, e = .returned (.tuple #[.slice p (digs X).length c, v]) ∧ OwnI w' w.heap.size w'.heap.size (.slice p (digs X).length c) (digs X) ∧ Below w.heap.size w w' := by
  have h := natDiv_any a ca xs b cb (digs g) w ha hb (by omega) (by omega) hx (by rw [val_digs]) (by rw [val_digs]; exact h0)
  rw [val_digs, hg] at h
  exact h.mono fun _ _ ⟨p, c, p2, c2, h1, h2, h3⟩ => ⟨p, c, _, h1, (OwnI.of_two h2).1, h3⟩
/-- a result in the blocks from lo on -/
def RatFrom (w : World) (lo : Nat) (r : RA) (e : Ending) (w' : World) : Prop := ∃ p c p2 c2, e = .returned (.agg #[.bool r.neg, .slice p r.num.length c, .slice p2 r.den.length c2]) ∧ Two w' lo w'.heap.size (.slice p r.num.length c) (.slice p2 r.den.length c2) r.num r.den ∧ Below w.heap.size w w'
theorem ratR_end {w w2 : World} {lo l2 hi R : Nat} {u v : Value} {xs ys : List Int} (hl : lo ≤ l2) (hR : R < l2) (hw : w.heap.size ≤ R) (h : Two w2 l2 hi u v xs ys) (hh : hi ≤ w2.heap.size) (b : Below w.heap.size w w2) (u0 u1 u2 : Value) :
    Two (((w2.setCell ⟨R, 0, none⟩ u0).setCell ⟨R, 1, none⟩ u1).setCell ⟨R, 2, none⟩ u2) lo (((w2.setCell ⟨R, 0, none⟩ u0).setCell ⟨R, 1, none⟩ u1).setCell ⟨R, 2, none⟩ u2).heap.size u v xs ys ∧ Below w.heap.size w (((w2.setCell ⟨R, 0, none⟩ u0).setCell ⟨R, 1, none⟩ u1).setCell ⟨R, 2, none⟩ u2) :=
  ⟨(((h.put hR).put hR).put hR).mono hl (by simpa using hh), below_put (below_put (below_put b hw) hw) hw⟩
theorem Two.putHigh {w : World} {lo hi R k : Nat} {u v x : Value} {xs ys : List Int} (h : Two w lo hi u v xs ys) (_ : hi ≤ w.heap.size) (hR : hi ≤ R) : Two (w.setCell ⟨R, k, none⟩ x) lo hi u v xs ys :=
  h.span (lo2 := R) (hi2 := R + 1) ⟨rfl, rfl, rfl, by simp, fun q hq ho => Below.heap_setCell _ _ _ _ (by simp; omega)⟩ (.inl hR)
theorem ratA_end {w w2 : World} {lo hi R : Nat} {u v : Value} {xs ys : List Int} (hlo : lo ≤ hi) (hR : hi ≤ R) (hw : w.heap.size ≤ R) (h : Two w2 lo hi u v xs ys) (hh : hi ≤ w2.heap.size) (b : Below w.heap.size w w2) (u0 u1 u2 : Value) :
    Two (((w2.setCell ⟨R, 0, none⟩ u0).setCell ⟨R, 1, none⟩ u1).setCell ⟨R, 2, none⟩ u2) lo (((w2.setCell ⟨R, 0, none⟩ u0).setCell ⟨R, 1, none⟩ u1).setCell ⟨R, 2, none⟩ u2).heap.size u v xs ys ∧ Below w.heap.size w (((w2.setCell ⟨R, 0, none⟩ u0).setCell ⟨R, 1, none⟩ u1).setCell ⟨R, 2, none⟩ u2) :=
  ⟨(((h.putHigh hh hR).putHigh (by simpa using hh) hR).putHigh (by simpa using hh) hR).mono (Nat.le_refl _) (by simpa using hh), below_put (below_put (below_put b hw) hw) hw⟩
theorem ratzR_end {w w2 : World} {lo R : Nat} (hlo : lo ≤ w.heap.size) (hR : w.heap.size ≤ R) (b : Below w.heap.size w w2) (u0 u1 u2 : Value) :
    Two (((w2.setCell ⟨R, 0, none⟩ u0).setCell ⟨R, 1, none⟩ u1).setCell ⟨R, 2, none⟩ u2) lo (((w2.setCell ⟨R, 0, none⟩ u0).setCell ⟨R, 1, none⟩ u1).setCell ⟨R, 2, none⟩ u2).heap.size (.slice none 0 0) (.slice none 0 0) [] [] ∧ Below w.heap.size w (((w2.setCell ⟨R, 0, none⟩ u0).setCell ⟨R, 1, none⟩ u1).setCell ⟨R, 2, none⟩ u2) :=
  ⟨two_nil _ _ _ (by have := b.size; simp; omega), below_put (below_put (below_put b hR) hR) hR⟩
def fitR2 (n : Bool) (X Y : Nat) : RA := if (digs X).length ≤ 24 ∧ (digs Y).length ≤ 24 then ⟨n, digs X, digs Y⟩ else zeroRA
section
variable (n : Bool) (a : Option Addr) (ca : Nat) (xs : List Int) (b : Option Addr) (cb : Nat) (ys : List Int) (lo hi : Nat) (w : World) (ht : Two w lo hi (.slice a xs.length ca) (.slice b ys.length cb) xs ys) (hh : hi ≤ w.heap.size) (hn : xs.length ≤ 400000) (hm : ys.length ≤ 400000) (hx : digs (val xs) = xs) (hy : digs (val ys) = ys) (g X Y : Nat)
set_option maxHeartbeats 4000000 in
include ht hh hn hm hx hy in
theorem reduced_g1 (hg : Nat.gcd (val xs) (val ys) = g) (hg1 : g = 1) : Calls Tryz.prog 35 #[.agg #[.bool n, .slice a xs.length ca], .slice b ys.length cb] w (RatFrom w lo (if xs.length ≤ 24 ∧ ys.length ≤ 24 then ⟨n, xs, ys⟩ else zeroRA)) := by
  have hlo : lo ≤ hi := by obtain ⟨m, e1, e2, _⟩ := ht; omega
  have T := Lib.hid ht
  have HX := Lib.hid hx
  have HY := Lib.hid hy
  clear ht hx hy
  have hG1 : decide (g = 1) = true := decide_eq_true hg1
  have HG := Lib.hid hg
  clear hg hg1
  by_cases k1 : xs.length ≤ 24
  · have k1' : decide ((24 : Int) < (xs.length : Int)) = false := decide_eq_false (by omega)
    by_cases k2 : ys.length ≤ 24
    · have k2' : decide ((24 : Int) < (ys.length : Int)) = false := decide_eq_false (by omega)
      rw [if_pos ⟨k1, k2⟩]
      go_enter Tryz.func35, Tryz.ntmps35
      go_wp2_with fail
      refine (natGcd_out a ca xs b cb ys g _ (T.out.i1.below (ba2 _ _ _)) (T.out.i2.below (ba2 _ _ _)) (by omega) (by omega) HX.out HY.out HG.out).mono ?_
      rintro e W1 ⟨p, c, rfl, hG, b1⟩
      have Rox := bx2_0 b1
      have Rr := bx2_1 b1
      have B := Lib.hid (bstep (ba2 _ _ _) b1)
      have sb1 := b1.size
      try simp at sb1
      have G := Lib.hid hG
      clear hG
      have Yox0 := Rox.cell 0 rfl
      have Yox1 := Rox.cell 1 rfl
      have Lox := Rox.lt
      have Fox0 := Rox.frozen 0
      have Fox1 := Rox.frozen 1
      have Yr0 := Rr.cell 0 rfl
      have Yr1 := Rr.cell 1 rfl
      have Yr2 := Rr.cell 2 rfl
      have Lr := Rr.lt
      have Fr0 := Rr.frozen 0
      have Fr1 := Rr.frozen 1
      have Fr2 := Rr.frozen 2
      clear b1
      go_wp2_with fail
      refine (isOne_any p c g _ G.out.ints).mono ?_
      rintro e W2 ⟨rfl, b2⟩
      clear Yox0 Yox1 Lox Fox0 Fox1 Yr0 Yr1 Yr2 Lr Fr0 Fr1 Fr2
      have Rox := box_step Rox b2
      have Rr := box_step Rr b2
      have B := Lib.hid (bstep B.out b2)
      have G := Lib.hid (G.out.below b2)
      have sb2 := b2.size
      have Yox0 := Rox.cell 0 rfl
      have Yox1 := Rox.cell 1 rfl
      have Lox := Rox.lt
      have Fox0 := Rox.frozen 0
      have Fox1 := Rox.frozen 1
      have Yr0 := Rr.cell 0 rfl
      have Yr1 := Rr.cell 1 rfl
      have Yr2 := Rr.cell 2 rfl
      have Lr := Rr.lt
      have Fr0 := Rr.frozen 0
      have Fr1 := Rr.frozen 1
      have Fr2 := Rr.frozen 2
      clear b2
      go_wp2
      refine bodyPost_ret (v := .agg #[.bool n, .slice a xs.length ca, .slice b ys.length cb]) (by simp [results, Tryz.results35, go_sem, Yox0, Yox1, Yr0, Yr1, Yr2, Lox, Lr]) rfl ⟨a, ca, b, cb, rfl, ratA_end (by first | omega | (simp; done) | (simp; omega)) (by first | omega | (simp; done) | (simp; omega)) (by first | omega | (simp; done) | (simp; omega)) (T.out.below B.out) (by first | omega | (simp; done) | (simp; omega)) B.out _ _ _⟩
    · have k2' : decide ((24 : Int) < (ys.length : Int)) = true := decide_eq_true (by omega)
      rw [if_neg (fun h => k2 h.2)]
      go_enter Tryz.func35, Tryz.ntmps35
      go_wp2_with fail
      refine (natGcd_out a ca xs b cb ys g _ (T.out.i1.below (ba2 _ _ _)) (T.out.i2.below (ba2 _ _ _)) (by omega) (by omega) HX.out HY.out HG.out).mono ?_
      rintro e W3 ⟨p, c, rfl, hG, b3⟩
      have Rox := bx2_0 b3
      have Rr := bx2_1 b3
      have B := Lib.hid (bstep (ba2 _ _ _) b3)
      have sb3 := b3.size
      try simp at sb3
      have G := Lib.hid hG
      clear hG
      have Yox0 := Rox.cell 0 rfl
      have Yox1 := Rox.cell 1 rfl
      have Lox := Rox.lt
      have Fox0 := Rox.frozen 0
      have Fox1 := Rox.frozen 1
      have Yr0 := Rr.cell 0 rfl
      have Yr1 := Rr.cell 1 rfl
      have Yr2 := Rr.cell 2 rfl
      have Lr := Rr.lt
      have Fr0 := Rr.frozen 0
      have Fr1 := Rr.frozen 1
      have Fr2 := Rr.frozen 2
      clear b3
      go_wp2_with fail
      refine (isOne_any p c g _ G.out.ints).mono ?_
      rintro e W4 ⟨rfl, b4⟩
      clear Yox0 Yox1 Lox Fox0 Fox1 Yr0 Yr1 Yr2 Lr Fr0 Fr1 Fr2
      have Rox := box_step Rox b4
      have Rr := box_step Rr b4
      have B := Lib.hid (bstep B.out b4)
      have G := Lib.hid (G.out.below b4)
      have sb4 := b4.size
      have Yox0 := Rox.cell 0 rfl
      have Yox1 := Rox.cell 1 rfl
      have Lox := Rox.lt
      have Fox0 := Rox.frozen 0
      have Fox1 := Rox.frozen 1
      have Yr0 := Rr.cell 0 rfl
      have Yr1 := Rr.cell 1 rfl
      have Yr2 := Rr.cell 2 rfl
      have Lr := Rr.lt
      have Fr0 := Rr.frozen 0
      have Fr1 := Rr.frozen 1
      have Fr2 := Rr.frozen 2
      clear b4
      go_wp2
      refine bodyPost_ret (v := .agg #[.bool false, .slice none 0 0, .slice none 0 0]) (by simp [results, Tryz.results35, go_sem, Yox0, Yox1, Yr0, Yr1, Yr2, Lox, Lr]) rfl ⟨none, 0, none, 0, rfl, ratzR_end (by first | omega | (simp; done) | (simp; omega)) (by first | omega | (simp; done) | (simp; omega)) B.out _ _ _⟩
  · have k1' : decide ((24 : Int) < (xs.length : Int)) = true := decide_eq_true (by omega)
    rw [if_neg (fun h => k1 h.1)]
    go_enter Tryz.func35, Tryz.ntmps35
    go_wp2_with fail
    refine (natGcd_out a ca xs b cb ys g _ (T.out.i1.below (ba2 _ _ _)) (T.out.i2.below (ba2 _ _ _)) (by omega) (by omega) HX.out HY.out HG.out).mono ?_
    rintro e W5 ⟨p, c, rfl, hG, b5⟩
    have Rox := bx2_0 b5
    have Rr := bx2_1 b5
    have B := Lib.hid (bstep (ba2 _ _ _) b5)
    have sb5 := b5.size
    try simp at sb5
    have G := Lib.hid hG
    clear hG
    have Yox0 := Rox.cell 0 rfl
    have Yox1 := Rox.cell 1 rfl
    have Lox := Rox.lt
    have Fox0 := Rox.frozen 0
    have Fox1 := Rox.frozen 1
    have Yr0 := Rr.cell 0 rfl
    have Yr1 := Rr.cell 1 rfl
    have Yr2 := Rr.cell 2 rfl
    have Lr := Rr.lt
    have Fr0 := Rr.frozen 0
    have Fr1 := Rr.frozen 1
    have Fr2 := Rr.frozen 2
    clear b5
    go_wp2_with fail
    refine (isOne_any p c g _ G.out.ints).mono ?_
    rintro e W6 ⟨rfl, b6⟩
    clear Yox0 Yox1 Lox Fox0 Fox1 Yr0 Yr1 Yr2 Lr Fr0 Fr1 Fr2
    have Rox := box_step Rox b6
    have Rr := box_step Rr b6
    have B := Lib.hid (bstep B.out b6)
    have G := Lib.hid (G.out.below b6)
    have sb6 := b6.size
    have Yox0 := Rox.cell 0 rfl
    have Yox1 := Rox.cell 1 rfl
    have Lox := Rox.lt
    have Fox0 := Rox.frozen 0
    have Fox1 := Rox.frozen 1
    have Yr0 := Rr.cell 0 rfl
    have Yr1 := Rr.cell 1 rfl
    have Yr2 := Rr.cell 2 rfl
    have Lr := Rr.lt
    have Fr0 := Rr.frozen 0
    have Fr1 := Rr.frozen 1
    have Fr2 := Rr.frozen 2
    clear b6
    go_wp2
    refine bodyPost_ret (v := .agg #[.bool false, .slice none 0 0, .slice none 0 0]) (by simp [results, Tryz.results35, go_sem, Yox0, Yox1, Yr0, Yr1, Yr2, Lox, Lr]) rfl ⟨none, 0, none, 0, rfl, ratzR_end (by first | omega | (simp; done) | (simp; omega)) (by first | omega | (simp; done) | (simp; omega)) B.out _ _ _⟩

set_option maxHeartbeats 4000000 in
include ht hh hn hm hx hy in
theorem reduced_gn (hg : Nat.gcd (val xs) (val ys) = g) (hlg : (digs g).length ≤ 400000) (hg1 : g ≠ 1) (hg0 : 0 < g) (hX : val xs / g = X) (hY : val ys / g = Y) : Calls Tryz.prog 35 #[.agg #[.bool n, .slice a xs.length ca], .slice b ys.length cb] w (RatFrom w lo (fitR2 n X Y)) := by
  have hlo : lo ≤ hi := by obtain ⟨m, e1, e2, _⟩ := ht; omega
  have T := Lib.hid ht
  have HX := Lib.hid hx
  have HY := Lib.hid hy
  clear ht hx hy
  have hG1 : decide (g = 1) = false := decide_eq_false hg1
  have HG := Lib.hid hg
  have HGX := Lib.hid hX
  have HGY := Lib.hid hY
  have HG0 := Lib.hid hg0
  clear hg hg1 hg0 hX hY
  by_cases k1 : (digs X).length ≤ 24
  · have k1' : decide ((24 : Int) < ((digs X).length : Int)) = false := decide_eq_false (by omega)
    by_cases k2 : (digs Y).length ≤ 24
    · have k2' : decide ((24 : Int) < ((digs Y).length : Int)) = false := decide_eq_false (by omega)
      rw [show fitR2 n X Y = ⟨n, digs X, digs Y⟩ from if_pos ⟨k1, k2⟩]
      go_enter Tryz.func35, Tryz.ntmps35
      go_wp2_with fail
      refine (natGcd_out a ca xs b cb ys g _ (T.out.i1.below (ba2 _ _ _)) (T.out.i2.below (ba2 _ _ _)) (by omega) (by omega) HX.out HY.out HG.out).mono ?_
      rintro e W7 ⟨p, c, rfl, hG, b7⟩
      have Rox := bx2_0 b7
      have Rr := bx2_1 b7
      have B := Lib.hid (bstep (ba2 _ _ _) b7)
      have sb7 := b7.size
      try simp at sb7
      have G := Lib.hid hG
      clear hG
      have Yox0 := Rox.cell 0 rfl
      have Yox1 := Rox.cell 1 rfl
      have Lox := Rox.lt
      have Fox0 := Rox.frozen 0
      have Fox1 := Rox.frozen 1
      have Yr0 := Rr.cell 0 rfl
      have Yr1 := Rr.cell 1 rfl
      have Yr2 := Rr.cell 2 rfl
      have Lr := Rr.lt
      have Fr0 := Rr.frozen 0
      have Fr1 := Rr.frozen 1
      have Fr2 := Rr.frozen 2
      clear b7
      go_wp2_with fail
      refine (isOne_any p c g _ G.out.ints).mono ?_
      rintro e W8 ⟨rfl, b8⟩
      clear Yox0 Yox1 Lox Fox0 Fox1 Yr0 Yr1 Yr2 Lr Fr0 Fr1 Fr2
      have Rox := box_step Rox b8
      have Rr := box_step Rr b8
      have B := Lib.hid (bstep B.out b8)
      have G := Lib.hid (G.out.below b8)
      have sb8 := b8.size
      have Yox0 := Rox.cell 0 rfl
      have Yox1 := Rox.cell 1 rfl
      have Lox := Rox.lt
      have Fox0 := Rox.frozen 0
      have Fox1 := Rox.frozen 1
      have Yr0 := Rr.cell 0 rfl
      have Yr1 := Rr.cell 1 rfl
      have Yr2 := Rr.cell 2 rfl
      have Lr := Rr.lt
      have Fr0 := Rr.frozen 0
      have Fr1 := Rr.frozen 1
      have Fr2 := Rr.frozen 2
      clear b8
      go_wp2_with fail
      refine (natDiv_out a ca xs p c g X _ (T.out.i1.below B.out) G.out.ints (by omega) (by omega) HX.out HG0.out HGX.out).mono ?_
      rintro e W9 ⟨p1, c1, v1, rfl, hJ1, b9⟩
      clear Yox0 Yox1 Lox Fox0 Fox1 Yr0 Yr1 Yr2 Lr Fr0 Fr1 Fr2
      have Rox := box_step Rox b9
      have Rr := box_step Rr b9
      have B := Lib.hid (bstep B.out b9)
      have G := Lib.hid (G.out.below b9)
      have sb9 := b9.size
      have J1 := Lib.hid hJ1
      clear hJ1
      have Yox0 := Rox.cell 0 rfl
      have Yox1 := Rox.cell 1 rfl
      have Lox := Rox.lt
      have Fox0 := Rox.frozen 0
      have Fox1 := Rox.frozen 1
      have Yr0 := Rr.cell 0 rfl
      have Yr1 := Rr.cell 1 rfl
      have Yr2 := Rr.cell 2 rfl
      have Lr := Rr.lt
      have Fr0 := Rr.frozen 0
      have Fr1 := Rr.frozen 1
      have Fr2 := Rr.frozen 2
      clear b9
      go_wp2_with fail
      refine (natDiv_out b cb ys p c g Y _ (T.out.i2.below (below_put (R := w.heap.size) (k := 1) B.out (by first | omega | (simp; done) | (simp; omega)))) (G.out.put (R := w.heap.size) (k := 1) (by first | omega | (simp; done) | (simp; omega))).ints (by omega) (by omega) HY.out HG0.out HGY.out).mono ?_
      rintro e W10 ⟨p2, c2, v2, rfl, hJ2, b10⟩
      clear Yox0 Yox1 Lox Fox0 Fox1 Yr0 Yr1 Yr2 Lr Fr0 Fr1 Fr2
      have Rox : Box W10 (w.heap.size) #[.bool n, .slice p1 (digs X).length c1] := box_as (box_step (box_put (k := 1) Rox) b10) rfl
      have Rr := box_step (box_other (R := w.heap.size) (k := 1) Rr (by first | omega | (simp; done) | (simp; omega))) b10
      have B := Lib.hid (bstep (below_put (R := w.heap.size) (k := 1) B.out (by first | omega | (simp; done) | (simp; omega))) b10)
      have G := Lib.hid ((G.out.put (R := w.heap.size) (k := 1) (by first | omega | (simp; done) | (simp; omega))).below b10)
      have J1 := Lib.hid ((J1.out.put (R := w.heap.size) (k := 1) (by first | omega | (simp; done) | (simp; omega))).below b10)
      have sb10 := b10.size
      try simp at sb10
      have J2 := Lib.hid hJ2
      clear hJ2
      have Yox0 := Rox.cell 0 rfl
      have Yox1 := Rox.cell 1 rfl
      have Lox := Rox.lt
      have Fox0 := Rox.frozen 0
      have Fox1 := Rox.frozen 1
      have Yr0 := Rr.cell 0 rfl
      have Yr1 := Rr.cell 1 rfl
      have Yr2 := Rr.cell 2 rfl
      have Lr := Rr.lt
      have Fr0 := Rr.frozen 0
      have Fr1 := Rr.frozen 1
      have Fr2 := Rr.frozen 2
      clear b10
      go_wp2
      refine bodyPost_ret (v := .agg #[.bool n, .slice p1 (digs X).length c1, .slice p2 (digs Y).length c2]) (by simp [results, Tryz.results35, go_sem, Yox0, Yox1, Yr0, Yr1, Yr2, Lox, Lr]) rfl ⟨p1, c1, p2, c2, rfl, ratR_end (by first | omega | (simp; done) | (simp; omega)) (by first | omega | (simp; done) | (simp; omega)) (by first | omega | (simp; done) | (simp; omega)) (Two.of J1.out J2.out (Nat.le_refl _) (by first | omega | (simp; done) | (simp; omega)) (Nat.le_refl _) (by first | omega | (simp; done) | (simp; omega)) (by first | omega | (simp; done) | (simp; omega))) (by first | omega | (simp; done) | (simp; omega)) B.out _ _ _⟩
    · have k2' : decide ((24 : Int) < ((digs Y).length : Int)) = true := decide_eq_true (by omega)
      rw [show fitR2 n X Y = zeroRA from if_neg (fun h => k2 h.2)]
      go_enter Tryz.func35, Tryz.ntmps35
      go_wp2_with fail
      refine (natGcd_out a ca xs b cb ys g _ (T.out.i1.below (ba2 _ _ _)) (T.out.i2.below (ba2 _ _ _)) (by omega) (by omega) HX.out HY.out HG.out).mono ?_
      rintro e W11 ⟨p, c, rfl, hG, b11⟩
      have Rox := bx2_0 b11
      have Rr := bx2_1 b11
      have B := Lib.hid (bstep (ba2 _ _ _) b11)
      have sb11 := b11.size
      try simp at sb11
      have G := Lib.hid hG
      clear hG
      have Yox0 := Rox.cell 0 rfl
      have Yox1 := Rox.cell 1 rfl
      have Lox := Rox.lt
      have Fox0 := Rox.frozen 0
      have Fox1 := Rox.frozen 1
      have Yr0 := Rr.cell 0 rfl
      have Yr1 := Rr.cell 1 rfl
      have Yr2 := Rr.cell 2 rfl
      have Lr := Rr.lt
      have Fr0 := Rr.frozen 0
      have Fr1 := Rr.frozen 1
      have Fr2 := Rr.frozen 2
      clear b11
      go_wp2_with fail
      refine (isOne_any p c g _ G.out.ints).mono ?_
      rintro e W12 ⟨rfl, b12⟩
      clear Yox0 Yox1 Lox Fox0 Fox1 Yr0 Yr1 Yr2 Lr Fr0 Fr1 Fr2
      have Rox := box_step Rox b12
      have Rr := box_step Rr b12
      have B := Lib.hid (bstep B.out b12)
      have G := Lib.hid (G.out.below b12)
      have sb12 := b12.size
      have Yox0 := Rox.cell 0 rfl
      have Yox1 := Rox.cell 1 rfl
      have Lox := Rox.lt
      have Fox0 := Rox.frozen 0
      have Fox1 := Rox.frozen 1
      have Yr0 := Rr.cell 0 rfl
      have Yr1 := Rr.cell 1 rfl
      have Yr2 := Rr.cell 2 rfl
      have Lr := Rr.lt
      have Fr0 := Rr.frozen 0
      have Fr1 := Rr.frozen 1
      have Fr2 := Rr.frozen 2
      clear b12
      go_wp2_with fail
      refine (natDiv_out a ca xs p c g X _ (T.out.i1.below B.out) G.out.ints (by omega) (by omega) HX.out HG0.out HGX.out).mono ?_
      rintro e W13 ⟨p1, c1, v1, rfl, hJ1, b13⟩
      clear Yox0 Yox1 Lox Fox0 Fox1 Yr0 Yr1 Yr2 Lr Fr0 Fr1 Fr2
      have Rox := box_step Rox b13
      have Rr := box_step Rr b13
      have B := Lib.hid (bstep B.out b13)
      have G := Lib.hid (G.out.below b13)
      have sb13 := b13.size
      have J1 := Lib.hid hJ1
      clear hJ1
      have Yox0 := Rox.cell 0 rfl
      have Yox1 := Rox.cell 1 rfl
      have Lox := Rox.lt
      have Fox0 := Rox.frozen 0
      have Fox1 := Rox.frozen 1
      have Yr0 := Rr.cell 0 rfl
      have Yr1 := Rr.cell 1 rfl
      have Yr2 := Rr.cell 2 rfl
      have Lr := Rr.lt
      have Fr0 := Rr.frozen 0
      have Fr1 := Rr.frozen 1
      have Fr2 := Rr.frozen 2
      clear b13
      go_wp2_with fail
      refine (natDiv_out b cb ys p c g Y _ (T.out.i2.below (below_put (R := w.heap.size) (k := 1) B.out (by first | omega | (simp; done) | (simp; omega)))) (G.out.put (R := w.heap.size) (k := 1) (by first | omega | (simp; done) | (simp; omega))).ints (by omega) (by omega) HY.out HG0.out HGY.out).mono ?_
      rintro e W14 ⟨p2, c2, v2, rfl, hJ2, b14⟩
      clear Yox0 Yox1 Lox Fox0 Fox1 Yr0 Yr1 Yr2 Lr Fr0 Fr1 Fr2
      have Rox : Box W14 (w.heap.size) #[.bool n, .slice p1 (digs X).length c1] := box_as (box_step (box_put (k := 1) Rox) b14) rfl
      have Rr := box_step (box_other (R := w.heap.size) (k := 1) Rr (by first | omega | (simp; done) | (simp; omega))) b14
      have B := Lib.hid (bstep (below_put (R := w.heap.size) (k := 1) B.out (by first | omega | (simp; done) | (simp; omega))) b14)
      have G := Lib.hid ((G.out.put (R := w.heap.size) (k := 1) (by first | omega | (simp; done) | (simp; omega))).below b14)
      have J1 := Lib.hid ((J1.out.put (R := w.heap.size) (k := 1) (by first | omega | (simp; done) | (simp; omega))).below b14)
      have sb14 := b14.size
      try simp at sb14
      have J2 := Lib.hid hJ2
      clear hJ2
      have Yox0 := Rox.cell 0 rfl
      have Yox1 := Rox.cell 1 rfl
      have Lox := Rox.lt
      have Fox0 := Rox.frozen 0
      have Fox1 := Rox.frozen 1
      have Yr0 := Rr.cell 0 rfl
      have Yr1 := Rr.cell 1 rfl
      have Yr2 := Rr.cell 2 rfl
      have Lr := Rr.lt
      have Fr0 := Rr.frozen 0
      have Fr1 := Rr.frozen 1
      have Fr2 := Rr.frozen 2
      clear b14
      go_wp2
      refine bodyPost_ret (v := .agg #[.bool false, .slice none 0 0, .slice none 0 0]) (by simp [results, Tryz.results35, go_sem, Yox0, Yox1, Yr0, Yr1, Yr2, Lox, Lr]) rfl ⟨none, 0, none, 0, rfl, ratzR_end (by first | omega | (simp; done) | (simp; omega)) (by first | omega | (simp; done) | (simp; omega)) B.out _ _ _⟩
  · have k1' : decide ((24 : Int) < ((digs X).length : Int)) = true := decide_eq_true (by omega)
    rw [show fitR2 n X Y = zeroRA from if_neg (fun h => k1 h.1)]
    go_enter Tryz.func35, Tryz.ntmps35
    go_wp2_with fail
    refine (natGcd_out a ca xs b cb ys g _ (T.out.i1.below (ba2 _ _ _)) (T.out.i2.below (ba2 _ _ _)) (by omega) (by omega) HX.out HY.out HG.out).mono ?_
    rintro e W15 ⟨p, c, rfl, hG, b15⟩
    have Rox := bx2_0 b15
    have Rr := bx2_1 b15
    have B := Lib.hid (bstep (ba2 _ _ _) b15)
    have sb15 := b15.size
    try simp at sb15
    have G := Lib.hid hG
    clear hG
    have Yox0 := Rox.cell 0 rfl
    have Yox1 := Rox.cell 1 rfl
    have Lox := Rox.lt
    have Fox0 := Rox.frozen 0
    have Fox1 := Rox.frozen 1
    have Yr0 := Rr.cell 0 rfl
    have Yr1 := Rr.cell 1 rfl
    have Yr2 := Rr.cell 2 rfl
    have Lr := Rr.lt
    have Fr0 := Rr.frozen 0
    have Fr1 := Rr.frozen 1
    have Fr2 := Rr.frozen 2
    clear b15
    go_wp2_with fail
    refine (isOne_any p c g _ G.out.ints).mono ?_
    rintro e W16 ⟨rfl, b16⟩
    clear Yox0 Yox1 Lox Fox0 Fox1 Yr0 Yr1 Yr2 Lr Fr0 Fr1 Fr2
    have Rox := box_step Rox b16
    have Rr := box_step Rr b16
    have B := Lib.hid (bstep B.out b16)
    have G := Lib.hid (G.out.below b16)
    have sb16 := b16.size
    have Yox0 := Rox.cell 0 rfl
    have Yox1 := Rox.cell 1 rfl
    have Lox := Rox.lt
    have Fox0 := Rox.frozen 0
    have Fox1 := Rox.frozen 1
    have Yr0 := Rr.cell 0 rfl
    have Yr1 := Rr.cell 1 rfl
    have Yr2 := Rr.cell 2 rfl
    have Lr := Rr.lt
    have Fr0 := Rr.frozen 0
    have Fr1 := Rr.frozen 1
    have Fr2 := Rr.frozen 2
    clear b16
    go_wp2_with fail
    refine (natDiv_out a ca xs p c g X _ (T.out.i1.below B.out) G.out.ints (by omega) (by omega) HX.out HG0.out HGX.out).mono ?_
    rintro e W17 ⟨p1, c1, v1, rfl, hJ1, b17⟩
    clear Yox0 Yox1 Lox Fox0 Fox1 Yr0 Yr1 Yr2 Lr Fr0 Fr1 Fr2
    have Rox := box_step Rox b17
    have Rr := box_step Rr b17
    have B := Lib.hid (bstep B.out b17)
    have G := Lib.hid (G.out.below b17)
    have sb17 := b17.size
    have J1 := Lib.hid hJ1
    clear hJ1
    have Yox0 := Rox.cell 0 rfl
    have Yox1 := Rox.cell 1 rfl
    have Lox := Rox.lt
    have Fox0 := Rox.frozen 0
    have Fox1 := Rox.frozen 1
    have Yr0 := Rr.cell 0 rfl
    have Yr1 := Rr.cell 1 rfl
    have Yr2 := Rr.cell 2 rfl
    have Lr := Rr.lt
    have Fr0 := Rr.frozen 0
    have Fr1 := Rr.frozen 1
    have Fr2 := Rr.frozen 2
    clear b17
    go_wp2_with fail
    refine (natDiv_out b cb ys p c g Y _ (T.out.i2.below (below_put (R := w.heap.size) (k := 1) B.out (by first | omega | (simp; done) | (simp; omega)))) (G.out.put (R := w.heap.size) (k := 1) (by first | omega | (simp; done) | (simp; omega))).ints (by omega) (by omega) HY.out HG0.out HGY.out).mono ?_
    rintro e W18 ⟨p2, c2, v2, rfl, hJ2, b18⟩
    clear Yox0 Yox1 Lox Fox0 Fox1 Yr0 Yr1 Yr2 Lr Fr0 Fr1 Fr2
    have Rox : Box W18 (w.heap.size) #[.bool n, .slice p1 (digs X).length c1] := box_as (box_step (box_put (k := 1) Rox) b18) rfl
    have Rr := box_step (box_other (R := w.heap.size) (k := 1) Rr (by first | omega | (simp; done) | (simp; omega))) b18
    have B := Lib.hid (bstep (below_put (R := w.heap.size) (k := 1) B.out (by first | omega | (simp; done) | (simp; omega))) b18)
    have G := Lib.hid ((G.out.put (R := w.heap.size) (k := 1) (by first | omega | (simp; done) | (simp; omega))).below b18)
    have J1 := Lib.hid ((J1.out.put (R := w.heap.size) (k := 1) (by first | omega | (simp; done) | (simp; omega))).below b18)
    have sb18 := b18.size
    try simp at sb18
    have J2 := Lib.hid hJ2
    clear hJ2
    have Yox0 := Rox.cell 0 rfl
    have Yox1 := Rox.cell 1 rfl
    have Lox := Rox.lt
    have Fox0 := Rox.frozen 0
    have Fox1 := Rox.frozen 1
    have Yr0 := Rr.cell 0 rfl
    have Yr1 := Rr.cell 1 rfl
    have Yr2 := Rr.cell 2 rfl
    have Lr := Rr.lt
    have Fr0 := Rr.frozen 0
    have Fr1 := Rr.frozen 1
    have Fr2 := Rr.frozen 2
    clear b18
    go_wp2
    refine bodyPost_ret (v := .agg #[.bool false, .slice none 0 0, .slice none 0 0]) (by simp [results, Tryz.results35, go_sem, Yox0, Yox1, Yr0, Yr1, Yr2, Lox, Lr]) rfl ⟨none, 0, none, 0, rfl, ratzR_end (by first | omega | (simp; done) | (simp; omega)) (by first | omega | (simp; done) | (simp; omega)) B.out _ _ _⟩

include ht hh hn hm hx hy in
theorem reduced_any (hs : n = true → 0 < val xs) (h0 : 0 < val ys) : Calls Tryz.prog 35 #[.agg #[.bool n, .slice a xs.length ca], .slice b ys.length cb] w (RatFrom w lo (mkRA n (val xs) (val ys))) := by
  rw [mkRA_fitRA n (by omega)]
  by_cases h2 : Nat.gcd (val xs) (val ys) = 1
  · have H := reduced_g1 n a ca xs b cb ys lo hi w ht hh hn hm hx hy 1 h2 rfl
    rw [h2, Nat.div_one, Nat.div_one]
    have e : fitRA n (val xs) (val ys) = (if xs.length ≤ 24 ∧ ys.length ≤ 24 then ⟨n, xs, ys⟩ else zeroRA) := by
      have e2 := red_neg (N := val xs) h0 hs
      rw [h2, Nat.div_one] at e2
      unfold fitRA
      rw [e2, hx, hy]
    rw [e]
    exact H
  · have hg : Nat.gcd (val xs) (val ys) ≤ val ys := Nat.le_of_dvd (by omega) (Nat.gcd_dvd_right _ _)
    have l2 : val ys < pw 400000 := Nat.lt_of_lt_of_le (val_lt (rng_of hy)) (pw_mono hm)
    have H := reduced_gn n a ca xs b cb ys lo hi w ht hh hn hm hx hy _ _ _ rfl (digs_len_le (Nat.lt_of_le_of_lt hg l2)) h2 (Nat.gcd_pos_of_pos_right _ h0) rfl rfl
    have e : fitRA n (val xs / Nat.gcd (val xs) (val ys)) (val ys / Nat.gcd (val xs) (val ys)) = fitR2 n (val xs / Nat.gcd (val xs) (val ys)) (val ys / Nat.gcd (val xs) (val ys)) := by
      unfold fitRA fitR2
      rw [red_neg h0 hs]
    rw [e]
    exact H
end
end Go.Proofs.YtehhpkeabckdaaaGreatDoor
