/- Fractions: the program's walks, two fractions. -/
import Derived.Deep.RegionHeld3
import Derived.Deep.DeepCutAuto
import Derived.Test.YtehhpkeabckdaaaGreatDoorRatJ
import Derived.Test.YtehhpkeabckdaaaGreatDoorRatT
import Derived.Test.YtehhpkeabckdaaaGreatDoorRatA
namespace Go.Proofs.YtehhpkeabckdaaaGreatDoor
set_option linter.unusedVariables false
set_option linter.unusedSimpArgs false
open Go.RowKit
theorem prod_b {u d : Int} (h1 : -999999999 ≤ u ∧ u ≤ 999999999) (h2 : 1 ≤ d ∧ d ≤ 999999999) : -999999998000000001 ≤ u * d ∧ u * d ≤ 999999998000000001 := by
  obtain ⟨k, rfl⟩ : ∃ k : Nat, d = (k : Int) := ⟨d.toNat, by omega⟩
  rcases Int.le_total 0 u with h | h
  · have := prod_bound (x := u) (y := (k : Int)) ⟨h, h1.2⟩ ⟨by omega, h2.2⟩; omega
  · have := prod_bound (x := -u) (y := (k : Int)) ⟨by omega, by omega⟩ ⟨by omega, h2.2⟩
    rw [Int.neg_mul] at this; omega
theorem prod_p {u d : Int} (h1 : 1 ≤ u ∧ u ≤ 999999999) (h2 : 1 ≤ d ∧ d ≤ 999999999) : 1 ≤ u * d ∧ u * d ≤ 999999998000000001 := by
  have := prod_bound (x := u) (y := d) ⟨by omega, h1.2⟩ ⟨by omega, h2.2⟩
  have h3 : 0 < u * d := Int.mul_pos (by omega) (by omega)
  omega
theorem prod_s {u v : Int} (h1 : -999999999 ≤ u ∧ u ≤ 999999999) (h2 : -999999999 ≤ v ∧ v ≤ 999999999) : -999999998000000001 ≤ u * v ∧ u * v ≤ 999999998000000001 := by
  rcases Int.le_total 0 v with h | h
  · rcases Int.le_total 0 u with h3 | h3
    · have := prod_bound (x := u) (y := v) ⟨h3, h1.2⟩ ⟨h, h2.2⟩; omega
    · have := prod_bound (x := -u) (y := v) ⟨by omega, by omega⟩ ⟨h, h2.2⟩
      rw [Int.neg_mul] at this; omega
  · rcases Int.le_total 0 u with h3 | h3
    · have := prod_bound (x := u) (y := -v) ⟨h3, h1.2⟩ ⟨by omega, by omega⟩
      rw [Int.mul_neg] at this; omega
    · have := prod_bound (x := -u) (y := -v) ⟨by omega, by omega⟩ ⟨by omega, by omega⟩
      rw [Int.neg_mul_neg] at this; omega
theorem natMul_out (a : Option Addr) (ca : Nat) (xs : List Int) (b : Option Addr) (cb : Nat) (ys : List Int) (N : Nat) (w : World) (ha : IntsAt w a ca xs) (hb : IntsAt w b cb ys) (hn : xs.length ≤ 500000) (hm : ys.length ≤ 500000) (hx : Rng xs) (hy : Rng ys) (hN : val xs * val ys = N) :
    Calls Tryz.prog 37 #[.slice a xs.length ca, .slice b ys.length cb] w fun e w' => ∃ p c, e = .returned (.slice p (digs N).length c) ∧ OwnI w' w.heap.size w'.heap.size (.slice p (digs N).length c) (digs N) ∧ Below w.heap.size w w' := by
  subst hN
  exact own_out (natMul_row a ca xs b cb ys w ha hb hn hm hx hy)
theorem bigMul_of (n : Bool) (a : Option Addr) (ca : Nat) (xs : List Int) (m : Bool) (b : Option Addr) (cb : Nat) (ys : List Int) (z : Int) (w : World) (ha : IntsAt w a ca xs) (hn : xs.length ≤ 500000) (hb : IntsAt w b cb ys) (hm : ys.length ≤ 500000) (hx : Rng xs) (hy : Rng ys) (hz : toI n xs * toI m ys = z) :
    Calls Tryz.prog 36 #[.agg #[.bool n, .slice a xs.length ca], .agg #[.bool m, .slice b ys.length cb]] w fun e w' => ∃ p c', e = .returned (.agg #[.bool (ofI z).neg, .slice p (ofI z).mag.length c']) ∧
    OwnI w' w.heap.size w'.heap.size (.slice p (ofI z).mag.length c') (ofI z).mag ∧ Below w.heap.size w w' := by
  subst hz
  exact bigMul_int n a ca xs m b cb ys w ha hn hb hm hx hy
theorem bigAdd_of (z1 z2 z : Int) (a : Option Addr) (ca : Nat) (b : Option Addr) (cb : Nat) (w : World) (ha : IntsAt w a ca (ofI z1).mag) (hn : (ofI z1).mag.length ≤ 500000) (hb : IntsAt w b cb (ofI z2).mag) (hm : (ofI z2).mag.length ≤ 500000) (hz : z1 + z2 = z) :
    Calls Tryz.prog 57 #[.agg #[.bool (ofI z1).neg, .slice a (ofI z1).mag.length ca], .agg #[.bool (ofI z2).neg, .slice b (ofI z2).mag.length cb]] w fun e w' => ∃ p c', e = .returned (.agg #[.bool (ofI z).neg, .slice p (ofI z).mag.length c']) ∧
    OwnI w' w.heap.size w'.heap.size (.slice p (ofI z).mag.length c') (ofI z).mag ∧ Below w.heap.size w w' := by
  have h := bigAdd_any (ofI z1).neg a ca (ofI z1).mag (ofI z2).neg b cb (ofI z2).mag w ha hn hb hm (by show digs (val (digs _)) = _; rw [val_digs]; rfl) (by show digs (val (digs _)) = _; rw [val_digs]; rfl)
  rw [toI_ofI, toI_ofI, hz] at h
  exact h
theorem bigCmp_of (z1 z2 : Int) (a : Option Addr) (ca : Nat) (b : Option Addr) (cb : Nat) (w : World) (ha : IntsAt w a ca (ofI z1).mag) (hn : (ofI z1).mag.length ≤ 500000) (hb : IntsAt w b cb (ofI z2).mag) (hm : (ofI z2).mag.length ≤ 500000) :
    Calls Tryz.prog 60 #[.agg #[.bool (ofI z1).neg, .slice a (ofI z1).mag.length ca], .agg #[.bool (ofI z2).neg, .slice b (ofI z2).mag.length cb]] w fun e w' => e = .returned (.int .i64 (cmpZ z1 z2)) ∧ Below w.heap.size w w' := by
  have h := bigCmp_any (ofI z1).neg a ca (ofI z1).mag (ofI z2).neg b cb (ofI z2).mag w ha (by omega) hb (by omega)
  rw [bigCmpL_ofI] at h
  exact h
theorem toI_false (xs : List Int) : toI false xs = ((val xs : Nat) : Int) := by unfold toI; simp
section
variable (n : Bool) (a : Option Addr) (ca : Nat) (xs : List Int) (b : Option Addr) (cb : Nat) (ds : List Int) (m : Bool) (a2 : Option Addr) (ca2 : Nat) (ys : List Int) (b2 : Option Addr) (cb2 : Nat) (es : List Int) (w : World) (ha : IntsAt w a ca xs) (hn : xs.length ≤ 1048576) (hb : IntsAt w b cb ds) (hm : ds.length ≤ 1048576) (ha2 : IntsAt w a2 ca2 ys) (hn2 : ys.length ≤ 1048576) (hb2 : IntsAt w b2 cb2 es) (hm2 : es.length ≤ 1048576)
section
variable (g : Nat) (hR : Box w g #[.bool n, .slice a xs.length ca, .slice b ds.length cb, .bool m, .slice a2 ys.length ca2, .slice b2 es.length cb2])
set_option maxHeartbeats 4000000 in
include ha hn hb hm ha2 hn2 hb2 hm2 hR in
theorem ratsFind_any : Calls Tryz.prog 76 #[.slice (some ⟨g, 0, none⟩) 2 2, .func (.func 56) #[] #[]] w fun e w' => (∃ k : Int, e = .returned (.int .i64 k) ∧ decide (0 ≤ k) = !(ratOkB n xs ds && ratOkB m ys es)) ∧ Below w.heap.size w w' := by
  have HA := Lib.hid ha
  have HB := Lib.hid hb
  have HA2 := Lib.hid ha2
  have HB2 := Lib.hid hb2
  have HR := Lib.hid hR
  clear ha hb ha2 hb2 hR
  go_enter Tryz.func76, Tryz.ntmps76
  go_wp2
  go_loopw [8] (fun i wr => ∃ k : Nat, k ≤ 2 ∧ i = .int .i64 k ∧ (0 < k → ratOkB n xs ds = true) ∧ (1 < k → ratOkB m ys es = true) ∧ Below w.heap.size w wr) (fun i _ => 2 - (intOf i).toNat)
  case atStart => exact ⟨0, by omega, rfl, fun h => absurd h (by omega), fun h => absurd h (by omega), Below.refl _ _⟩
  case round =>
    obtain ⟨k, hk, rfl, h1, h2, hb⟩ := hrel
    have K1 := Lib.hid h1
    have K2 := Lib.hid h2
    have HBL := Lib.hid hb
    have R := box_step HR.out hb
    have Y0 : wr.cell? ⟨g, 0, none⟩ = some (.bool n) := R.cell 0 rfl
    have Y1 : wr.cell? ⟨g, 1, none⟩ = some (.slice a xs.length ca) := R.cell 1 rfl
    have Y2 : wr.cell? ⟨g, 2, none⟩ = some (.slice b ds.length cb) := R.cell 2 rfl
    have Y3 : wr.cell? ⟨g, 3, none⟩ = some (.bool m) := R.cell 3 rfl
    have Y4 : wr.cell? ⟨g, 4, none⟩ = some (.slice a2 ys.length ca2) := R.cell 4 rfl
    have Y5 : wr.cell? ⟨g, 5, none⟩ = some (.slice b2 es.length cb2) := R.cell 5 rfl
    clear h1 h2 hb R
    match k, hk, K1, K2 with
    | 0, _, _, _ =>
      by_cases h : ratOkB n xs ds = true
      · have HH := Lib.hid h
        go_wp2_with (go_at_call 56; refine (areRatsFn_any n a ca xs b cb ds _ (HA.out.below HBL.out) hn (HB.out.below HBL.out) hm).mono ?_; rintro e W1 ⟨rfl, b1⟩)
        go_roundw
        case rel => exact ⟨1, by omega, rfl, fun _ => HH.out, fun h => absurd h (by omega), bstep HBL.out b1⟩
        case measure => simp [intOf]
      · have h' := Bool.eq_false_iff.2 h
        have HH := Lib.hid h'
        clear h
        go_wp2_with (go_at_call 56; refine (areRatsFn_any n a ca xs b cb ds _ (HA.out.below HBL.out) hn (HB.out.below HBL.out) hm).mono ?_; rintro e W1 ⟨rfl, b1⟩)
        go_ret
        exact ⟨⟨0, rfl, by rw [HH.out]; rfl⟩, bstep HBL.out b1⟩
    | 1, _, K1, _ =>
      have HK : Hid (ratOkB n xs ds = true) := Lib.hid (K1.out (by omega))
      by_cases h : ratOkB m ys es = true
      · have HH := Lib.hid h
        go_wp2_with (go_at_call 56; refine (areRatsFn_any m a2 ca2 ys b2 cb2 es _ (HA2.out.below HBL.out) hn2 (HB2.out.below HBL.out) hm2).mono ?_; rintro e W1 ⟨rfl, b1⟩)
        go_roundw
        case rel => exact ⟨2, by omega, rfl, fun _ => HK.out, fun _ => HH.out, bstep HBL.out b1⟩
        case measure => simp [intOf]
      · have h' := Bool.eq_false_iff.2 h
        have HH := Lib.hid h'
        clear h
        go_wp2_with (go_at_call 56; refine (areRatsFn_any m a2 ca2 ys b2 cb2 es _ (HA2.out.below HBL.out) hn2 (HB2.out.below HBL.out) hm2).mono ?_; rintro e W1 ⟨rfl, b1⟩)
        go_ret
        exact ⟨⟨1, rfl, by rw [HH.out, Bool.and_false]; rfl⟩, bstep HBL.out b1⟩
    | 2, _, K1, K2 =>
      have HK : Hid ((ratOkB n xs ds && ratOkB m ys es) = true) := by unfold Hid; rw [K1.out (by omega), K2.out (by omega)]; rfl
      go_wp2
      go_ret
      exact ⟨⟨-1, rfl, by rw [HK.out]; rfl⟩, HBL.out⟩
set_option maxHeartbeats 2000000 in
include ha hn hb hm ha2 hn2 hb2 hm2 hR in
theorem areRats_any (v : Bool) (hv : (ratOkB n xs ds && ratOkB m ys es) = v) : Calls Tryz.prog 26 #[.slice (some ⟨g, 0, none⟩) 2 2] w fun e w' => e = .returned (.bool v) ∧ Below w.heap.size w w' := by
  have HF := Lib.hid (ratsFind_any n a ca xs b cb ds m a2 ca2 ys b2 cb2 es w ha hn hb hm ha2 hn2 hb2 hm2 g hR)
  have HV := Lib.hid hv
  clear ha hb ha2 hb2 hR hv
  have HC : Calls Tryz.prog 55 #[.slice (some ⟨g, 0, none⟩) 2 2, .func (.func 56) #[] #[]] w fun e w' => e = .returned (.bool (!v)) ∧ Below w.heap.size w w' := by
    go_enter Tryz.func55, Tryz.ntmps55
    go_wp2_with (go_at_call 76; refine HF.out.mono ?_; rintro e W1 ⟨⟨k, rfl, hk⟩, b1⟩)
    go_ret
    exact ⟨ret_bool (by rw [← HV.out, Bool.not_and]), b1⟩
  have HCC := Lib.hid HC
  clear HC HF
  cases v
  · go_enter Tryz.func26, Tryz.ntmps26
    go_wp2_with (go_at_call 55; refine HCC.out.mono ?_; rintro e W1 ⟨rfl, b1⟩)
    go_ret
    exact ⟨rfl, b1⟩
  · go_enter Tryz.func26, Tryz.ntmps26
    go_wp2_with (go_at_call 55; refine HCC.out.mono ?_; rintro e W1 ⟨rfl, b1⟩)
    go_ret
    exact ⟨rfl, b1⟩
end
end
open Go.RowKit
section
variable (n : Bool) (a : Option Addr) (ca : Nat) (xs : List Int) (b : Option Addr) (cb : Nat) (ds : List Int) (m : Bool) (a2 : Option Addr) (ca2 : Nat) (ys : List Int) (b2 : Option Addr) (cb2 : Nat) (es : List Int) (w : World) (ha : IntsAt w a ca xs) (hn : xs.length ≤ 1048576) (hb : IntsAt w b cb ds) (hm : ds.length ≤ 1048576) (ha2 : IntsAt w a2 ca2 ys) (hn2 : ys.length ≤ 1048576) (hb2 : IntsAt w b2 cb2 es) (hm2 : es.length ≤ 1048576)
set_option maxHeartbeats 4000000 in
include ha hb ha2 hb2 in
theorem plus_small (h1 : ratOkB n xs ds = true) (h2 : ratOkB m ys es = true) (hs1 : smallB xs ds = true) (hs2 : smallB ys es = true) : Calls Tryz.prog 27 #[.agg #[.bool n, .slice a xs.length ca, .slice b ds.length cb], .agg #[.bool m, .slice a2 ys.length ca2, .slice b2 es.length cb2]] w (RatRet w (ratAddP n xs ds m ys es)) := by
  have hlx := rok_lx h1
  have hld := rok_ld h1
  have hly := rok_lx h2
  have hle := rok_ld h2
  have HX := Lib.hid (rok_rx h1)
  have HD := Lib.hid (rok_rd h1)
  have HY := Lib.hid (rok_rx h2)
  have HE := Lib.hid (rok_rd h2)
  obtain ⟨u, hu⟩ : ∃ u, toI n xs = u := ⟨_, rfl⟩
  obtain ⟨d, hd⟩ : ∃ d, ((val ds : Nat) : Int) = d := ⟨_, rfl⟩
  obtain ⟨v, hv⟩ : ∃ v, toI m ys = v := ⟨_, rfl⟩
  obtain ⟨f, hf⟩ : ∃ f, ((val es : Nat) : Int) = f := ⟨_, rfl⟩
  obtain ⟨su1, su2, sd1, sd2⟩ := small_size h1 hs1
  obtain ⟨sv1, sv2, sf1, sf2⟩ := small_size h2 hs2
  rw [hu] at su1 su2
  rw [hd] at sd1 sd2
  rw [hv] at sv1 sv2
  rw [hf] at sf1 sf2
  have HU := Lib.hid hu
  have HDD := Lib.hid hd
  have HV := Lib.hid hv
  have HFF := Lib.hid hf
  obtain ⟨pa1, pa2⟩ := prod_b ⟨su1, su2⟩ ⟨sf1, sf2⟩
  obtain ⟨pb1, pb2⟩ := prod_b ⟨sv1, sv2⟩ ⟨sd1, sd2⟩
  obtain ⟨pc1, pc2⟩ := prod_p ⟨sd1, sd2⟩ ⟨sf1, sf2⟩
  obtain ⟨pe1, pe2⟩ := prod_s ⟨su1, su2⟩ ⟨sv1, sv2⟩
  have HRR : Hid (mkRAz (u * f + v * d) (d * f).toNat = ratAddP n xs ds m ys es) := by
    rw [Hid, ratAddP_yes h1 h2, hu, hv, hd, hf, ← hd, ← hf, ← Int.natCast_mul, Int.toNat_natCast]
  obtain ⟨R, hR⟩ : ∃ R, ratAddP n xs ds m ys es = R := ⟨_, rfl⟩
  rw [hR] at HRR ⊢
  clear hR h1 h2 hu hd hv hf hlx hld hly hle
  have HA := Lib.hid ha
  have HB := Lib.hid hb
  have HA2 := Lib.hid ha2
  have HB2 := Lib.hid hb2
  clear ha hb ha2 hb2
  go_enter Tryz.func27, Tryz.ntmps27
  go_wp2_with fail
  refine (isSmall_any n a ca xs b cb ds _).mono ?_
  rintro e W1 ⟨rfl, b1⟩
  have Rx := bx3_0 b1
  have Ry := bx3_1 b1
  have Rr := bx3_2 b1
  have B := Lib.hid (bstep (ba3 _ _ _ _) b1)
  have sb1 := b1.size
  try simp at sb1
  have Yx0 := Rx.cell 0 rfl
  have Yx1 := Rx.cell 1 rfl
  have Yx2 := Rx.cell 2 rfl
  have Lx := Rx.lt
  have Yy0 := Ry.cell 0 rfl
  have Yy1 := Ry.cell 1 rfl
  have Yy2 := Ry.cell 2 rfl
  have Ly := Ry.lt
  have Yr0 := Rr.cell 0 rfl
  have Yr1 := Rr.cell 1 rfl
  have Yr2 := Rr.cell 2 rfl
  have Lr := Rr.lt
  have Fr0 := Rr.frozen 0
  have Fr1 := Rr.frozen 1
  have Fr2 := Rr.frozen 2
  clear b1
  go_wp2_with fail
  refine (isSmall_any m a2 ca2 ys b2 cb2 es _).mono ?_
  rintro e W2 ⟨rfl, b2⟩
  clear Yx0 Yx1 Yx2 Lx Yy0 Yy1 Yy2 Ly Yr0 Yr1 Yr2 Lr Fr0 Fr1 Fr2
  have Rx := box_step Rx b2
  have Ry := box_step Ry b2
  have Rr := box_step Rr b2
  have B := Lib.hid (bstep B.out b2)
  have sb2 := b2.size
  have Yx0 := Rx.cell 0 rfl
  have Yx1 := Rx.cell 1 rfl
  have Yx2 := Rx.cell 2 rfl
  have Lx := Rx.lt
  have Yy0 := Ry.cell 0 rfl
  have Yy1 := Ry.cell 1 rfl
  have Yy2 := Ry.cell 2 rfl
  have Ly := Ry.lt
  have Yr0 := Rr.cell 0 rfl
  have Yr1 := Rr.cell 1 rfl
  have Yr2 := Rr.cell 2 rfl
  have Lr := Rr.lt
  have Fr0 := Rr.frozen 0
  have Fr1 := Rr.frozen 1
  have Fr2 := Rr.frozen 2
  clear b2
  go_wp2_with fail
  refine (small_any n a ca xs b cb ds u d _ (HA.out.below B.out) (HB.out.below B.out) hs1 HX.out HD.out HU.out HDD.out).mono ?_
  rintro e W3 ⟨rfl, b3⟩
  clear Yx0 Yx1 Yx2 Lx Yy0 Yy1 Yy2 Ly Yr0 Yr1 Yr2 Lr Fr0 Fr1 Fr2
  have Rx := box_step Rx b3
  have Ry := box_step Ry b3
  have Rr := box_step Rr b3
  have B := Lib.hid (bstep B.out b3)
  have sb3 := b3.size
  have Yx0 := Rx.cell 0 rfl
  have Yx1 := Rx.cell 1 rfl
  have Yx2 := Rx.cell 2 rfl
  have Lx := Rx.lt
  have Yy0 := Ry.cell 0 rfl
  have Yy1 := Ry.cell 1 rfl
  have Yy2 := Ry.cell 2 rfl
  have Ly := Ry.lt
  have Yr0 := Rr.cell 0 rfl
  have Yr1 := Rr.cell 1 rfl
  have Yr2 := Rr.cell 2 rfl
  have Lr := Rr.lt
  have Fr0 := Rr.frozen 0
  have Fr1 := Rr.frozen 1
  have Fr2 := Rr.frozen 2
  clear b3
  go_wp2_with fail
  refine (small_any m a2 ca2 ys b2 cb2 es v f _ (HA2.out.below B.out) (HB2.out.below B.out) hs2 HY.out HE.out HV.out HFF.out).mono ?_
  rintro e W4 ⟨rfl, b4⟩
  clear Yx0 Yx1 Yx2 Lx Yy0 Yy1 Yy2 Ly Yr0 Yr1 Yr2 Lr Fr0 Fr1 Fr2
  have Rx := box_step Rx b4
  have Ry := box_step Ry b4
  have Rr := box_step Rr b4
  have B := Lib.hid (bstep B.out b4)
  have sb4 := b4.size
  have Yx0 := Rx.cell 0 rfl
  have Yx1 := Rx.cell 1 rfl
  have Yx2 := Rx.cell 2 rfl
  have Lx := Rx.lt
  have Yy0 := Ry.cell 0 rfl
  have Yy1 := Ry.cell 1 rfl
  have Yy2 := Ry.cell 2 rfl
  have Ly := Ry.lt
  have Yr0 := Rr.cell 0 rfl
  have Yr1 := Rr.cell 1 rfl
  have Yr2 := Rr.cell 2 rfl
  have Lr := Rr.lt
  have Fr0 := Rr.frozen 0
  have Fr1 := Rr.frozen 1
  have Fr2 := Rr.frozen 2
  clear b4
  go_wp2_with fail
  refine ((HRR.out ▸ ofInts_any (u * f + v * d) (d * f) _ (by omega) (by omega) (by omega) (by omega))).mono ?_
  rintro e W5 ⟨p, c, p2, c2, rfl, hO, b5⟩
  clear Yx0 Yx1 Yx2 Lx Yy0 Yy1 Yy2 Ly Yr0 Yr1 Yr2 Lr Fr0 Fr1 Fr2
  have Rx := box_step Rx b5
  have Ry := box_step Ry b5
  have Rr := box_step Rr b5
  have B := Lib.hid (bstep B.out b5)
  have sb5 := b5.size
  have O := Lib.hid hO
  clear hO
  have Yx0 := Rx.cell 0 rfl
  have Yx1 := Rx.cell 1 rfl
  have Yx2 := Rx.cell 2 rfl
  have Lx := Rx.lt
  have Yy0 := Ry.cell 0 rfl
  have Yy1 := Ry.cell 1 rfl
  have Yy2 := Ry.cell 2 rfl
  have Ly := Ry.lt
  have Yr0 := Rr.cell 0 rfl
  have Yr1 := Rr.cell 1 rfl
  have Yr2 := Rr.cell 2 rfl
  have Lr := Rr.lt
  have Fr0 := Rr.frozen 0
  have Fr1 := Rr.frozen 1
  have Fr2 := Rr.frozen 2
  clear b5
  go_wp2
  refine bodyPost_ret (v := .agg #[.bool R.neg, .slice p R.num.length c, .slice p2 R.den.length c2]) (by simp [results, Tryz.results27, go_sem, Yr0, Yr1, Yr2, Lr]) rfl ⟨p, c, p2, c2, rfl, rat_endR (by first | omega | (simp; done) | (simp; omega)) (by first | omega | (simp; done) | (simp; omega)) O.out (by first | omega | (simp; done) | (simp; omega)) B.out _ _ _⟩

set_option maxHeartbeats 4000000 in
set_option maxRecDepth 100000 in
include ha hb ha2 hb2 in
theorem plus_f (h1 : ratOkB n xs ds = true) (h2 : ratOkB m ys es = true) (hs1 : smallB xs ds = false) : Calls Tryz.prog 27 #[.agg #[.bool n, .slice a xs.length ca, .slice b ds.length cb], .agg #[.bool m, .slice a2 ys.length ca2, .slice b2 es.length cb2]] w (RatRet w (ratAddP n xs ds m ys es)) := by
  have hlx := rok_lx h1
  have hld := rok_ld h1
  have hly := rok_lx h2
  have hle := rok_ld h2
  have HX := Lib.hid (rok_rx h1)
  have HD := Lib.hid (rok_rd h1)
  have HY := Lib.hid (rok_rx h2)
  have HE := Lib.hid (rok_rd h2)
  obtain ⟨D, hD⟩ : ∃ N : Nat, val ds * val es = N := ⟨_, rfl⟩
  have hlD : (digs D).length ≤ 48 := by rw [← hD]; exact digs_mul_len (rok_rd h1) (rok_rd h2) (by omega) (by omega)
  have hDp : 0 < D := by rw [← hD]; exact Nat.mul_pos (ratOk_pos h1) (ratOk_pos h2)
  obtain ⟨z1, ez1⟩ : ∃ z1, toI n xs * toI false es = z1 := ⟨_, rfl⟩
  obtain ⟨z2, ez2⟩ : ∃ z2, toI m ys * toI false ds = z2 := ⟨_, rfl⟩
  obtain ⟨z, ez⟩ : ∃ z, z1 + z2 = z := ⟨_, rfl⟩
  have hz1 : (digs z1.natAbs).length ≤ 48 := by rw [← ez1, Int.natAbs_mul, toI_natAbs, toI_natAbs]; exact digs_mul_len (rok_rx h1) (rok_rd h2) (by omega) (by omega)
  have hz2 : (digs z2.natAbs).length ≤ 48 := by rw [← ez2, Int.natAbs_mul, toI_natAbs, toI_natAbs]; exact digs_mul_len (rok_rx h2) (rok_rd h1) (by omega) (by omega)
  have hz : (digs z.natAbs).length ≤ 49 := by rw [← ez]; exact natAbs_add_lt hz1 hz2
  have hm1 : (ofI z1).mag.length ≤ 48 := hz1
  have hm3 : (ofI z2).mag.length ≤ 48 := hz2
  obtain ⟨R, hR⟩ : ∃ R, ratAddP n xs ds m ys es = R := ⟨_, rfl⟩
  have hRz : mkRAz z D = R := by rw [← hR, ratAddP_yes h1 h2, hD, ← ez, ← ez1, ← ez2, toI_false, toI_false]
  have HL : Hid (∀ (W : World) (p : Option Addr) (c : Nat) (p2 : Option Addr) (c2 lo hi : Nat), Two W lo hi (.slice p (ofI z).mag.length c) (.slice p2 (digs D).length c2) (ofI z).mag (digs D) → hi ≤ W.heap.size → Calls Tryz.prog 35 #[.agg #[.bool (ofI z).neg, .slice p (ofI z).mag.length c], .slice p2 (digs D).length c2] W (RatFrom W lo R)) := by
    intro W p c p2 c2 lo hi ht hh
    have h := reduced_any (ofI z).neg p c (ofI z).mag p2 c2 (digs D) lo hi W ht hh (by show (digs _).length ≤ _; omega) (by omega) (by show digs (val (digs _)) = _; rw [val_digs]; rfl) (by rw [val_digs]) (by show _ → 0 < val (digs _); rw [val_digs]; exact ofI_neg_pos z) (by rw [val_digs]; exact hDp)
    have e : mkRA (ofI z).neg (val (ofI z).mag) (val (digs D)) = R := by
      rw [val_digs, ← hRz]
      show mkRA (decide _) (val (digs _)) D = mkRAz z D
      rw [val_digs]; rfl
    rw [e] at h
    exact h
  have E1 := Lib.hid ez1
  have E2 := Lib.hid ez2
  have E := Lib.hid ez
  have HDD := Lib.hid hD
  rw [hR]
  clear hR hRz ez ez1 ez2 hD h1 h2 hz hz1 hz2
  have HA := Lib.hid ha
  have HB := Lib.hid hb
  have HA2 := Lib.hid ha2
  have HB2 := Lib.hid hb2
  clear ha hb ha2 hb2
  go_enter Tryz.func27, Tryz.ntmps27
  go_wp2_with fail
  refine (isSmall_any n a ca xs b cb ds _).mono ?_
  rintro e W6 ⟨rfl, b6⟩
  have Rx := bx3_0 b6
  have Ry := bx3_1 b6
  have Rr := bx3_2 b6
  have B := Lib.hid (bstep (ba3 _ _ _ _) b6)
  have sb6 := b6.size
  try simp at sb6
  have Yx0 := Rx.cell 0 rfl
  have Yx1 := Rx.cell 1 rfl
  have Yx2 := Rx.cell 2 rfl
  have Lx := Rx.lt
  have Yy0 := Ry.cell 0 rfl
  have Yy1 := Ry.cell 1 rfl
  have Yy2 := Ry.cell 2 rfl
  have Ly := Ry.lt
  have Yr0 := Rr.cell 0 rfl
  have Yr1 := Rr.cell 1 rfl
  have Yr2 := Rr.cell 2 rfl
  have Lr := Rr.lt
  have Fr0 := Rr.frozen 0
  have Fr1 := Rr.frozen 1
  have Fr2 := Rr.frozen 2
  clear b6
  have BB := B.out
  go_upto_region 5 with fail
  go_cut [9] (fun s9 wx => ∃ (R : Nat) (p3 : Option Addr) (c3 : Nat), s9 = .pointer (some ⟨R, 0, none⟩) ∧ W6.heap.size ≤ R ∧ Box wx R #[.bool (ofI z).neg, .slice p3 (ofI z).mag.length c3] ∧ OwnI wx W6.heap.size wx.heap.size (.slice p3 ((ofI z).mag).length c3) ((ofI z).mag) ∧ Below W6.heap.size W6 wx)
  case first =>
    have tok7 : True := trivial
    have tok8 : True := trivial
    have TYx0 : W6.cell? ⟨w.heap.size, 0, none⟩ = some (.bool n) := Yx0
    have TYx1 : W6.cell? ⟨w.heap.size, 1, none⟩ = some (.slice a xs.length ca) := Yx1
    have TYx2 : W6.cell? ⟨w.heap.size, 2, none⟩ = some (.slice b ds.length cb) := Yx2
    have TYy0 : W6.cell? ⟨w.heap.size + 1, 0, none⟩ = some (.bool m) := Yy0
    have TYy1 : W6.cell? ⟨w.heap.size + 1, 1, none⟩ = some (.slice a2 ys.length ca2) := Yy1
    have TYy2 : W6.cell? ⟨w.heap.size + 1, 2, none⟩ = some (.slice b2 es.length cb2) := Yy2
    have TYr0 : W6.cell? ⟨w.heap.size + 2, 0, none⟩ = some (.bool false) := Yr0
    have TYr1 : W6.cell? ⟨w.heap.size + 2, 1, none⟩ = some (.slice none 0 0) := Yr1
    have TYr2 : W6.cell? ⟨w.heap.size + 2, 2, none⟩ = some (.slice none 0 0) := Yr2
    go_region_held3 (fun w' => w'.cell? ⟨w.heap.size, 0, none⟩ = some (.bool n) ∧ w'.cell? ⟨w.heap.size, 1, none⟩ = some (.slice a xs.length ca) ∧ w'.cell? ⟨w.heap.size, 2, none⟩ = some (.slice b ds.length cb) ∧ w'.cell? ⟨w.heap.size + 1, 0, none⟩ = some (.bool m) ∧ w'.cell? ⟨w.heap.size + 1, 1, none⟩ = some (.slice a2 ys.length ca2) ∧ w'.cell? ⟨w.heap.size + 1, 2, none⟩ = some (.slice b2 es.length cb2) ∧ w'.cell? ⟨w.heap.size + 2, 0, none⟩ = some (.bool false) ∧ w'.cell? ⟨w.heap.size + 2, 1, none⟩ = some (.slice none 0 0) ∧ w'.cell? ⟨w.heap.size + 2, 2, none⟩ = some (.slice none 0 0))
      ((refine ⟨?_, ?_, ?_, ?_, ?_, ?_, ?_, ?_, ?_⟩ <;> (repeat first | with_reducible assumption | with_reducible refine cell_low ?_ (by first | omega | (simp; done) | (simp; omega)) | with_reducible refine cell_step ?_ (ba1 _ _) | with_reducible refine cell_step ?_ (by assumption) | with_reducible refine cell_dr ?_)))
      (first | (go_at_call 36; clear tok7; refine (bigMul_of n a ca xs false b2 cb2 es z1 _ (HA.out.below (by (repeat first | with_reducible assumption | with_reducible exact Below.refl _ _ | with_reducible refine bstep ?_ (ba1 _ _) | with_reducible refine bstep ?_ (by assumption) | with_reducible refine Below.drew ?_))) (by omega) (HB2.out.below (by (repeat first | with_reducible assumption | with_reducible exact Below.refl _ _ | with_reducible refine bstep ?_ (ba1 _ _) | with_reducible refine bstep ?_ (by assumption) | with_reducible refine Below.drew ?_))) (by omega) HX.out HE.out E1.out).mono ?_; rintro e W7 ⟨p1, c1, rfl, hU1, b7⟩; have s7 := b7.size; (try simp at s7); (first | have RZ := box_step RZ b7 | have RZ : Box W7 W6.heap.size _ := bx1_0 (w := W6.drew) b7 | skip)) | (go_at_call 36; clear tok8; refine (bigMul_of m a2 ca2 ys false b cb ds z2 _ (HA2.out.below (by (repeat first | with_reducible assumption | with_reducible exact Below.refl _ _ | with_reducible refine bstep ?_ (ba1 _ _) | with_reducible refine bstep ?_ (by assumption) | with_reducible refine Below.drew ?_))) (by omega) (HB.out.below (by (repeat first | with_reducible assumption | with_reducible exact Below.refl _ _ | with_reducible refine bstep ?_ (ba1 _ _) | with_reducible refine bstep ?_ (by assumption) | with_reducible refine Below.drew ?_))) (by omega) HY.out HD.out E2.out).mono ?_; rintro e W8 ⟨p2, c2, rfl, hU2, b8⟩; have s8 := b8.size; (try simp at s8); (first | have RZ := box_step RZ b8 | have RZ : Box W8 W7.heap.size _ := bx1_0 b8 | skip)) | (go_at_call 57; refine (bigAdd_of z1 z2 z p1 c1 p2 c2 _ (hU1.below (by (repeat first | with_reducible assumption | with_reducible exact Below.refl _ _ | with_reducible refine bstep ?_ (ba1 _ _) | with_reducible refine bstep ?_ (by assumption) | with_reducible refine Below.drew ?_))).ints (by omega) (hU2.below (by (repeat first | with_reducible assumption | with_reducible exact Below.refl _ _ | with_reducible refine bstep ?_ (ba1 _ _) | with_reducible refine bstep ?_ (by assumption) | with_reducible refine Below.drew ?_))).ints (by omega) E.out).mono ?_; rintro e W9 ⟨p3, c3, rfl, hO3, b9⟩; have s9 := b9.size; (try simp at s9); (first | have RZ := box_step RZ b9 | have RZ : Box W9 W8.heap.size _ := bx1_0 b9 | skip); (try (have Z0 : W9.cell? ⟨_, 0, none⟩ = some (.bool false) := RZ.cell 0 rfl; have FZ0 := RZ.frozen 0; have Z1 : W9.cell? ⟨_, 1, none⟩ = some (.slice none 0 0) := RZ.cell 1 rfl; have FZ1 := RZ.frozen 1; have LZ := RZ.lt))))
    all_goals (go_wp2_with fail; go_meet; (first | exact ⟨_, _, _, rfl, (by first | omega | (simp; done) | (simp; omega)), bx1_0 (Below.refl _ _), (hO3.below (ba1 _ _)).mono (by first | omega | (simp; done) | (simp; omega)) (by first | omega | (simp; done) | (simp; omega)), (by (repeat first | with_reducible assumption | with_reducible exact Below.refl _ _ | with_reducible refine bstep ?_ (ba1 _ _) | with_reducible refine bstep ?_ (by assumption) | with_reducible refine Below.drew ?_))⟩ | exact ⟨_, _, _, rfl, (by first | omega | (simp; done) | (simp; omega)), box_as (box_put (k := 1) (box_put (k := 0) RZ)) rfl, ((hO3.put (k := 0) (by first | omega | (simp; done) | (simp; omega))).put (k := 1) (by first | omega | (simp; done) | (simp; omega))).mono (by first | omega | (simp; done) | (simp; omega)) (by first | omega | (simp; done) | (simp; omega)), (below_put (k := 1) (below_put (k := 0) (by (repeat first | with_reducible assumption | with_reducible exact Below.refl _ _ | with_reducible refine bstep ?_ (ba1 _ _) | with_reducible refine bstep ?_ (by assumption) | with_reducible refine Below.drew ?_)) (by first | omega | (simp; done) | (simp; omega))) (by first | omega | (simp; done) | (simp; omega)))⟩))
  case rest =>
    obtain ⟨Rq, p3, c3, rfl, hRq, Rnq, hO3, b10⟩ := hcut
    obtain ⟨W10, hW10⟩ : ∃ W', W' = wc := ⟨_, rfl⟩
    subst hW10
    clear BB
    clear Yx0 Yx1 Yx2 Lx Yy0 Yy1 Yy2 Ly Yr0 Yr1 Yr2 Lr Fr0 Fr1 Fr2
    have Rx := box_step Rx b10
    have Ry := box_step Ry b10
    have Rr := box_step Rr b10
    have B := Lib.hid (bstep B.out b10)
    have s10 := b10.size
    have O3 := Lib.hid hO3
    clear hO3
    have Rqb := Rnq
    have Yx0 := Rx.cell 0 rfl
    have Yx1 := Rx.cell 1 rfl
    have Yx2 := Rx.cell 2 rfl
    have Lx := Rx.lt
    have Yy0 := Ry.cell 0 rfl
    have Yy1 := Ry.cell 1 rfl
    have Yy2 := Ry.cell 2 rfl
    have Ly := Ry.lt
    have Yr0 := Rr.cell 0 rfl
    have Yr1 := Rr.cell 1 rfl
    have Yr2 := Rr.cell 2 rfl
    have Lr := Rr.lt
    have Fr0 := Rr.frozen 0
    have Fr1 := Rr.frozen 1
    have Fr2 := Rr.frozen 2
    have Yqb0 := Rqb.cell 0 rfl
    have Yqb1 := Rqb.cell 1 rfl
    have Lqb := Rqb.lt
    clear b10 Rnq
    go_wp2_with fail
    go_region_held3 (fun w' => w'.cell? ⟨w.heap.size, 0, none⟩ = some (.bool n) ∧ w'.cell? ⟨w.heap.size, 1, none⟩ = some (.slice a xs.length ca) ∧ w'.cell? ⟨w.heap.size, 2, none⟩ = some (.slice b ds.length cb) ∧ w'.cell? ⟨w.heap.size + 1, 0, none⟩ = some (.bool m) ∧ w'.cell? ⟨w.heap.size + 1, 1, none⟩ = some (.slice a2 ys.length ca2) ∧ w'.cell? ⟨w.heap.size + 1, 2, none⟩ = some (.slice b2 es.length cb2) ∧ w'.cell? ⟨Rq, 0, none⟩ = some (.bool (ofI z).neg) ∧ w'.cell? ⟨Rq, 1, none⟩ = some (.slice p3 (ofI z).mag.length c3))
      ((first | exact ⟨Yx0, Yx1, Yx2, Yy0, Yy1, Yy2, Yqb0, Yqb1⟩ | exact ⟨cell_stepD Yx0 b11, cell_stepD Yx1 b11, cell_stepD Yx2 b11, cell_stepD Yy0 b11, cell_stepD Yy1 b11, cell_stepD Yy2 b11, cell_stepD Yqb0 b11, cell_stepD Yqb1 b11⟩ | exact ⟨cell_step (cell_stepD Yx0 b11) b12, cell_step (cell_stepD Yx1 b11) b12, cell_step (cell_stepD Yx2 b11) b12, cell_step (cell_stepD Yy0 b11) b12, cell_step (cell_stepD Yy1 b11) b12, cell_step (cell_stepD Yy2 b11) b12, cell_step (cell_stepD Yqb0 b11) b12, cell_step (cell_stepD Yqb1 b11) b12⟩ | exact ⟨cell_ne (cell_ne (cell_ne (cell_step (cell_stepD Yx0 b11) b12) (by first | (simp; done) | (simp; omega) | omega)) (by first | (simp; done) | (simp; omega) | omega)) (by first | (simp; done) | (simp; omega) | omega), cell_ne (cell_ne (cell_ne (cell_step (cell_stepD Yx1 b11) b12) (by first | (simp; done) | (simp; omega) | omega)) (by first | (simp; done) | (simp; omega) | omega)) (by first | (simp; done) | (simp; omega) | omega), cell_ne (cell_ne (cell_ne (cell_step (cell_stepD Yx2 b11) b12) (by first | (simp; done) | (simp; omega) | omega)) (by first | (simp; done) | (simp; omega) | omega)) (by first | (simp; done) | (simp; omega) | omega), cell_ne (cell_ne (cell_ne (cell_step (cell_stepD Yy0 b11) b12) (by first | (simp; done) | (simp; omega) | omega)) (by first | (simp; done) | (simp; omega) | omega)) (by first | (simp; done) | (simp; omega) | omega), cell_ne (cell_ne (cell_ne (cell_step (cell_stepD Yy1 b11) b12) (by first | (simp; done) | (simp; omega) | omega)) (by first | (simp; done) | (simp; omega) | omega)) (by first | (simp; done) | (simp; omega) | omega), cell_ne (cell_ne (cell_ne (cell_step (cell_stepD Yy2 b11) b12) (by first | (simp; done) | (simp; omega) | omega)) (by first | (simp; done) | (simp; omega) | omega)) (by first | (simp; done) | (simp; omega) | omega), cell_ne (cell_ne (cell_ne (cell_step (cell_stepD Yqb0 b11) b12) (by first | (simp; done) | (simp; omega) | omega)) (by first | (simp; done) | (simp; omega) | omega)) (by first | (simp; done) | (simp; omega) | omega), cell_ne (cell_ne (cell_ne (cell_step (cell_stepD Yqb1 b11) b12) (by first | (simp; done) | (simp; omega) | omega)) (by first | (simp; done) | (simp; omega) | omega)) (by first | (simp; done) | (simp; omega) | omega)⟩))
      (first | (go_at_call 37; refine (natMul_out b cb ds b2 cb2 es D _ (HB.out.below (B.out.drew)) (HB2.out.below (B.out.drew)) (by omega) (by omega) HD.out HE.out HDD.out).mono ?_; rintro e W11 ⟨p5, c5, rfl, hO5, b11⟩; have s11 := b11.size; (try simp at s11)) | (go_at_call 35; refine (HL.out _ p3 c3 p5 c5 _ _ (Two.of ((O3.out.below (Below.refl _ _).drew).below b11) hO5 (Nat.le_refl _) (by first | omega | (simp; done) | (simp; omega)) (Nat.le_refl _) (by first | omega | (simp; done) | (simp; omega)) (by first | omega | (simp; done) | (simp; omega))) (Nat.le_refl _)).mono ?_; rintro e W12 ⟨p6, c6, p7, c7, rfl, hO, b12⟩; have s12 := b12.size; (try simp at s12); have Rr := (box_step (box_step (box_drew Rr) b11) b12); have Yr0 := Rr.cell 0 rfl; have Fr0 := Rr.frozen 0; have Yr1 := Rr.cell 1 rfl; have Fr1 := Rr.frozen 1; have Yr2 := Rr.cell 2 rfl; have Fr2 := Rr.frozen 2; have Lr := Rr.lt))
    have sb11 := b11.size
    try simp at sb11
    have sb12 := b12.size
    have O3 := Lib.hid (((O3.out.below (Below.refl _ _).drew).below b11).below b12)
    have O5 := Lib.hid ((hO5.below b12))
    clear hO5
    have O := Lib.hid (hO)
    clear hO
    have B := Lib.hid (bstep (bstepD B.out b11) b12)
    clear b11 b12
    go_wp2
    refine bodyPost_ret (v := .agg #[.bool R.neg, .slice p6 R.num.length c6, .slice p7 R.den.length c7]) (by simp [results, Tryz.results27, go_sem, Yr0, Yr1, Yr2, Lr]) rfl ⟨p6, c6, p7, c7, rfl, rat_endR (by first | omega | (simp; done) | (simp; omega)) (by first | omega | (simp; done) | (simp; omega)) O.out (by first | omega | (simp; done) | (simp; omega)) B.out _ _ _⟩

set_option maxHeartbeats 4000000 in
set_option maxRecDepth 100000 in
include ha hb ha2 hb2 in
theorem plus_tf (h1 : ratOkB n xs ds = true) (h2 : ratOkB m ys es = true) (hs1 : smallB xs ds = true) (hs2 : smallB ys es = false) : Calls Tryz.prog 27 #[.agg #[.bool n, .slice a xs.length ca, .slice b ds.length cb], .agg #[.bool m, .slice a2 ys.length ca2, .slice b2 es.length cb2]] w (RatRet w (ratAddP n xs ds m ys es)) := by
  have hlx := rok_lx h1
  have hld := rok_ld h1
  have hly := rok_lx h2
  have hle := rok_ld h2
  have HX := Lib.hid (rok_rx h1)
  have HD := Lib.hid (rok_rd h1)
  have HY := Lib.hid (rok_rx h2)
  have HE := Lib.hid (rok_rd h2)
  obtain ⟨D, hD⟩ : ∃ N : Nat, val ds * val es = N := ⟨_, rfl⟩
  have hlD : (digs D).length ≤ 48 := by rw [← hD]; exact digs_mul_len (rok_rd h1) (rok_rd h2) (by omega) (by omega)
  have hDp : 0 < D := by rw [← hD]; exact Nat.mul_pos (ratOk_pos h1) (ratOk_pos h2)
  obtain ⟨z1, ez1⟩ : ∃ z1, toI n xs * toI false es = z1 := ⟨_, rfl⟩
  obtain ⟨z2, ez2⟩ : ∃ z2, toI m ys * toI false ds = z2 := ⟨_, rfl⟩
  obtain ⟨z, ez⟩ : ∃ z, z1 + z2 = z := ⟨_, rfl⟩
  have hz1 : (digs z1.natAbs).length ≤ 48 := by rw [← ez1, Int.natAbs_mul, toI_natAbs, toI_natAbs]; exact digs_mul_len (rok_rx h1) (rok_rd h2) (by omega) (by omega)
  have hz2 : (digs z2.natAbs).length ≤ 48 := by rw [← ez2, Int.natAbs_mul, toI_natAbs, toI_natAbs]; exact digs_mul_len (rok_rx h2) (rok_rd h1) (by omega) (by omega)
  have hz : (digs z.natAbs).length ≤ 49 := by rw [← ez]; exact natAbs_add_lt hz1 hz2
  have hm1 : (ofI z1).mag.length ≤ 48 := hz1
  have hm3 : (ofI z2).mag.length ≤ 48 := hz2
  obtain ⟨R, hR⟩ : ∃ R, ratAddP n xs ds m ys es = R := ⟨_, rfl⟩
  have hRz : mkRAz z D = R := by rw [← hR, ratAddP_yes h1 h2, hD, ← ez, ← ez1, ← ez2, toI_false, toI_false]
  have HL : Hid (∀ (W : World) (p : Option Addr) (c : Nat) (p2 : Option Addr) (c2 lo hi : Nat), Two W lo hi (.slice p (ofI z).mag.length c) (.slice p2 (digs D).length c2) (ofI z).mag (digs D) → hi ≤ W.heap.size → Calls Tryz.prog 35 #[.agg #[.bool (ofI z).neg, .slice p (ofI z).mag.length c], .slice p2 (digs D).length c2] W (RatFrom W lo R)) := by
    intro W p c p2 c2 lo hi ht hh
    have h := reduced_any (ofI z).neg p c (ofI z).mag p2 c2 (digs D) lo hi W ht hh (by show (digs _).length ≤ _; omega) (by omega) (by show digs (val (digs _)) = _; rw [val_digs]; rfl) (by rw [val_digs]) (by show _ → 0 < val (digs _); rw [val_digs]; exact ofI_neg_pos z) (by rw [val_digs]; exact hDp)
    have e : mkRA (ofI z).neg (val (ofI z).mag) (val (digs D)) = R := by
      rw [val_digs, ← hRz]
      show mkRA (decide _) (val (digs _)) D = mkRAz z D
      rw [val_digs]; rfl
    rw [e] at h
    exact h
  have E1 := Lib.hid ez1
  have E2 := Lib.hid ez2
  have E := Lib.hid ez
  have HDD := Lib.hid hD
  rw [hR]
  clear hR hRz ez ez1 ez2 hD h1 h2 hz hz1 hz2
  have HA := Lib.hid ha
  have HB := Lib.hid hb
  have HA2 := Lib.hid ha2
  have HB2 := Lib.hid hb2
  clear ha hb ha2 hb2
  go_enter Tryz.func27, Tryz.ntmps27
  go_wp2_with fail
  refine (isSmall_any n a ca xs b cb ds _).mono ?_
  rintro e W13 ⟨rfl, b13⟩
  have Rx := bx3_0 b13
  have Ry := bx3_1 b13
  have Rr := bx3_2 b13
  have B := Lib.hid (bstep (ba3 _ _ _ _) b13)
  have sb13 := b13.size
  try simp at sb13
  have Yx0 := Rx.cell 0 rfl
  have Yx1 := Rx.cell 1 rfl
  have Yx2 := Rx.cell 2 rfl
  have Lx := Rx.lt
  have Yy0 := Ry.cell 0 rfl
  have Yy1 := Ry.cell 1 rfl
  have Yy2 := Ry.cell 2 rfl
  have Ly := Ry.lt
  have Yr0 := Rr.cell 0 rfl
  have Yr1 := Rr.cell 1 rfl
  have Yr2 := Rr.cell 2 rfl
  have Lr := Rr.lt
  have Fr0 := Rr.frozen 0
  have Fr1 := Rr.frozen 1
  have Fr2 := Rr.frozen 2
  clear b13
  go_wp2_with fail
  refine (isSmall_any m a2 ca2 ys b2 cb2 es _).mono ?_
  rintro e W14 ⟨rfl, b14⟩
  clear Yx0 Yx1 Yx2 Lx Yy0 Yy1 Yy2 Ly Yr0 Yr1 Yr2 Lr Fr0 Fr1 Fr2
  have Rx := box_step Rx b14
  have Ry := box_step Ry b14
  have Rr := box_step Rr b14
  have B := Lib.hid (bstep B.out b14)
  have sb14 := b14.size
  have Yx0 := Rx.cell 0 rfl
  have Yx1 := Rx.cell 1 rfl
  have Yx2 := Rx.cell 2 rfl
  have Lx := Rx.lt
  have Yy0 := Ry.cell 0 rfl
  have Yy1 := Ry.cell 1 rfl
  have Yy2 := Ry.cell 2 rfl
  have Ly := Ry.lt
  have Yr0 := Rr.cell 0 rfl
  have Yr1 := Rr.cell 1 rfl
  have Yr2 := Rr.cell 2 rfl
  have Lr := Rr.lt
  have Fr0 := Rr.frozen 0
  have Fr1 := Rr.frozen 1
  have Fr2 := Rr.frozen 2
  clear b14
  have BB := B.out
  go_upto_region 5 with fail
  go_cut [9] (fun s9 wx => ∃ (R : Nat) (p3 : Option Addr) (c3 : Nat), s9 = .pointer (some ⟨R, 0, none⟩) ∧ W14.heap.size ≤ R ∧ Box wx R #[.bool (ofI z).neg, .slice p3 (ofI z).mag.length c3] ∧ OwnI wx W14.heap.size wx.heap.size (.slice p3 ((ofI z).mag).length c3) ((ofI z).mag) ∧ Below W14.heap.size W14 wx)
  case first =>
    have tok15 : True := trivial
    have tok16 : True := trivial
    have TYx0 : W14.cell? ⟨w.heap.size, 0, none⟩ = some (.bool n) := Yx0
    have TYx1 : W14.cell? ⟨w.heap.size, 1, none⟩ = some (.slice a xs.length ca) := Yx1
    have TYx2 : W14.cell? ⟨w.heap.size, 2, none⟩ = some (.slice b ds.length cb) := Yx2
    have TYy0 : W14.cell? ⟨w.heap.size + 1, 0, none⟩ = some (.bool m) := Yy0
    have TYy1 : W14.cell? ⟨w.heap.size + 1, 1, none⟩ = some (.slice a2 ys.length ca2) := Yy1
    have TYy2 : W14.cell? ⟨w.heap.size + 1, 2, none⟩ = some (.slice b2 es.length cb2) := Yy2
    have TYr0 : W14.cell? ⟨w.heap.size + 2, 0, none⟩ = some (.bool false) := Yr0
    have TYr1 : W14.cell? ⟨w.heap.size + 2, 1, none⟩ = some (.slice none 0 0) := Yr1
    have TYr2 : W14.cell? ⟨w.heap.size + 2, 2, none⟩ = some (.slice none 0 0) := Yr2
    go_region_held3 (fun w' => w'.cell? ⟨w.heap.size, 0, none⟩ = some (.bool n) ∧ w'.cell? ⟨w.heap.size, 1, none⟩ = some (.slice a xs.length ca) ∧ w'.cell? ⟨w.heap.size, 2, none⟩ = some (.slice b ds.length cb) ∧ w'.cell? ⟨w.heap.size + 1, 0, none⟩ = some (.bool m) ∧ w'.cell? ⟨w.heap.size + 1, 1, none⟩ = some (.slice a2 ys.length ca2) ∧ w'.cell? ⟨w.heap.size + 1, 2, none⟩ = some (.slice b2 es.length cb2) ∧ w'.cell? ⟨w.heap.size + 2, 0, none⟩ = some (.bool false) ∧ w'.cell? ⟨w.heap.size + 2, 1, none⟩ = some (.slice none 0 0) ∧ w'.cell? ⟨w.heap.size + 2, 2, none⟩ = some (.slice none 0 0))
      ((refine ⟨?_, ?_, ?_, ?_, ?_, ?_, ?_, ?_, ?_⟩ <;> (repeat first | with_reducible assumption | with_reducible refine cell_low ?_ (by first | omega | (simp; done) | (simp; omega)) | with_reducible refine cell_step ?_ (ba1 _ _) | with_reducible refine cell_step ?_ (by assumption) | with_reducible refine cell_dr ?_)))
      (first | (go_at_call 36; clear tok15; refine (bigMul_of n a ca xs false b2 cb2 es z1 _ (HA.out.below (by (repeat first | with_reducible assumption | with_reducible exact Below.refl _ _ | with_reducible refine bstep ?_ (ba1 _ _) | with_reducible refine bstep ?_ (by assumption) | with_reducible refine Below.drew ?_))) (by omega) (HB2.out.below (by (repeat first | with_reducible assumption | with_reducible exact Below.refl _ _ | with_reducible refine bstep ?_ (ba1 _ _) | with_reducible refine bstep ?_ (by assumption) | with_reducible refine Below.drew ?_))) (by omega) HX.out HE.out E1.out).mono ?_; rintro e W15 ⟨p1, c1, rfl, hU1, b15⟩; have s15 := b15.size; (try simp at s15); (first | have RZ := box_step RZ b15 | have RZ : Box W15 W14.heap.size _ := bx1_0 (w := W14.drew) b15 | skip)) | (go_at_call 36; clear tok16; refine (bigMul_of m a2 ca2 ys false b cb ds z2 _ (HA2.out.below (by (repeat first | with_reducible assumption | with_reducible exact Below.refl _ _ | with_reducible refine bstep ?_ (ba1 _ _) | with_reducible refine bstep ?_ (by assumption) | with_reducible refine Below.drew ?_))) (by omega) (HB.out.below (by (repeat first | with_reducible assumption | with_reducible exact Below.refl _ _ | with_reducible refine bstep ?_ (ba1 _ _) | with_reducible refine bstep ?_ (by assumption) | with_reducible refine Below.drew ?_))) (by omega) HY.out HD.out E2.out).mono ?_; rintro e W16 ⟨p2, c2, rfl, hU2, b16⟩; have s16 := b16.size; (try simp at s16); (first | have RZ := box_step RZ b16 | have RZ : Box W16 W15.heap.size _ := bx1_0 b16 | skip)) | (go_at_call 57; refine (bigAdd_of z1 z2 z p1 c1 p2 c2 _ (hU1.below (by (repeat first | with_reducible assumption | with_reducible exact Below.refl _ _ | with_reducible refine bstep ?_ (ba1 _ _) | with_reducible refine bstep ?_ (by assumption) | with_reducible refine Below.drew ?_))).ints (by omega) (hU2.below (by (repeat first | with_reducible assumption | with_reducible exact Below.refl _ _ | with_reducible refine bstep ?_ (ba1 _ _) | with_reducible refine bstep ?_ (by assumption) | with_reducible refine Below.drew ?_))).ints (by omega) E.out).mono ?_; rintro e W17 ⟨p3, c3, rfl, hO3, b17⟩; have s17 := b17.size; (try simp at s17); (first | have RZ := box_step RZ b17 | have RZ : Box W17 W16.heap.size _ := bx1_0 b17 | skip); (try (have Z0 : W17.cell? ⟨_, 0, none⟩ = some (.bool false) := RZ.cell 0 rfl; have FZ0 := RZ.frozen 0; have Z1 : W17.cell? ⟨_, 1, none⟩ = some (.slice none 0 0) := RZ.cell 1 rfl; have FZ1 := RZ.frozen 1; have LZ := RZ.lt))))
    all_goals (go_wp2_with fail; go_meet; (first | exact ⟨_, _, _, rfl, (by first | omega | (simp; done) | (simp; omega)), bx1_0 (Below.refl _ _), (hO3.below (ba1 _ _)).mono (by first | omega | (simp; done) | (simp; omega)) (by first | omega | (simp; done) | (simp; omega)), (by (repeat first | with_reducible assumption | with_reducible exact Below.refl _ _ | with_reducible refine bstep ?_ (ba1 _ _) | with_reducible refine bstep ?_ (by assumption) | with_reducible refine Below.drew ?_))⟩ | exact ⟨_, _, _, rfl, (by first | omega | (simp; done) | (simp; omega)), box_as (box_put (k := 1) (box_put (k := 0) RZ)) rfl, ((hO3.put (k := 0) (by first | omega | (simp; done) | (simp; omega))).put (k := 1) (by first | omega | (simp; done) | (simp; omega))).mono (by first | omega | (simp; done) | (simp; omega)) (by first | omega | (simp; done) | (simp; omega)), (below_put (k := 1) (below_put (k := 0) (by (repeat first | with_reducible assumption | with_reducible exact Below.refl _ _ | with_reducible refine bstep ?_ (ba1 _ _) | with_reducible refine bstep ?_ (by assumption) | with_reducible refine Below.drew ?_)) (by first | omega | (simp; done) | (simp; omega))) (by first | omega | (simp; done) | (simp; omega)))⟩))
  case rest =>
    obtain ⟨Rq, p3, c3, rfl, hRq, Rnq, hO3, b18⟩ := hcut
    obtain ⟨W18, hW18⟩ : ∃ W', W' = wc := ⟨_, rfl⟩
    subst hW18
    clear BB
    clear Yx0 Yx1 Yx2 Lx Yy0 Yy1 Yy2 Ly Yr0 Yr1 Yr2 Lr Fr0 Fr1 Fr2
    have Rx := box_step Rx b18
    have Ry := box_step Ry b18
    have Rr := box_step Rr b18
    have B := Lib.hid (bstep B.out b18)
    have s18 := b18.size
    have O3 := Lib.hid hO3
    clear hO3
    have Rqb := Rnq
    have Yx0 := Rx.cell 0 rfl
    have Yx1 := Rx.cell 1 rfl
    have Yx2 := Rx.cell 2 rfl
    have Lx := Rx.lt
    have Yy0 := Ry.cell 0 rfl
    have Yy1 := Ry.cell 1 rfl
    have Yy2 := Ry.cell 2 rfl
    have Ly := Ry.lt
    have Yr0 := Rr.cell 0 rfl
    have Yr1 := Rr.cell 1 rfl
    have Yr2 := Rr.cell 2 rfl
    have Lr := Rr.lt
    have Fr0 := Rr.frozen 0
    have Fr1 := Rr.frozen 1
    have Fr2 := Rr.frozen 2
    have Yqb0 := Rqb.cell 0 rfl
    have Yqb1 := Rqb.cell 1 rfl
    have Lqb := Rqb.lt
    clear b18 Rnq
    go_wp2_with fail
    go_region_held3 (fun w' => w'.cell? ⟨w.heap.size, 0, none⟩ = some (.bool n) ∧ w'.cell? ⟨w.heap.size, 1, none⟩ = some (.slice a xs.length ca) ∧ w'.cell? ⟨w.heap.size, 2, none⟩ = some (.slice b ds.length cb) ∧ w'.cell? ⟨w.heap.size + 1, 0, none⟩ = some (.bool m) ∧ w'.cell? ⟨w.heap.size + 1, 1, none⟩ = some (.slice a2 ys.length ca2) ∧ w'.cell? ⟨w.heap.size + 1, 2, none⟩ = some (.slice b2 es.length cb2) ∧ w'.cell? ⟨Rq, 0, none⟩ = some (.bool (ofI z).neg) ∧ w'.cell? ⟨Rq, 1, none⟩ = some (.slice p3 (ofI z).mag.length c3))
      ((first | exact ⟨Yx0, Yx1, Yx2, Yy0, Yy1, Yy2, Yqb0, Yqb1⟩ | exact ⟨cell_stepD Yx0 b19, cell_stepD Yx1 b19, cell_stepD Yx2 b19, cell_stepD Yy0 b19, cell_stepD Yy1 b19, cell_stepD Yy2 b19, cell_stepD Yqb0 b19, cell_stepD Yqb1 b19⟩ | exact ⟨cell_step (cell_stepD Yx0 b19) b20, cell_step (cell_stepD Yx1 b19) b20, cell_step (cell_stepD Yx2 b19) b20, cell_step (cell_stepD Yy0 b19) b20, cell_step (cell_stepD Yy1 b19) b20, cell_step (cell_stepD Yy2 b19) b20, cell_step (cell_stepD Yqb0 b19) b20, cell_step (cell_stepD Yqb1 b19) b20⟩ | exact ⟨cell_ne (cell_ne (cell_ne (cell_step (cell_stepD Yx0 b19) b20) (by first | (simp; done) | (simp; omega) | omega)) (by first | (simp; done) | (simp; omega) | omega)) (by first | (simp; done) | (simp; omega) | omega), cell_ne (cell_ne (cell_ne (cell_step (cell_stepD Yx1 b19) b20) (by first | (simp; done) | (simp; omega) | omega)) (by first | (simp; done) | (simp; omega) | omega)) (by first | (simp; done) | (simp; omega) | omega), cell_ne (cell_ne (cell_ne (cell_step (cell_stepD Yx2 b19) b20) (by first | (simp; done) | (simp; omega) | omega)) (by first | (simp; done) | (simp; omega) | omega)) (by first | (simp; done) | (simp; omega) | omega), cell_ne (cell_ne (cell_ne (cell_step (cell_stepD Yy0 b19) b20) (by first | (simp; done) | (simp; omega) | omega)) (by first | (simp; done) | (simp; omega) | omega)) (by first | (simp; done) | (simp; omega) | omega), cell_ne (cell_ne (cell_ne (cell_step (cell_stepD Yy1 b19) b20) (by first | (simp; done) | (simp; omega) | omega)) (by first | (simp; done) | (simp; omega) | omega)) (by first | (simp; done) | (simp; omega) | omega), cell_ne (cell_ne (cell_ne (cell_step (cell_stepD Yy2 b19) b20) (by first | (simp; done) | (simp; omega) | omega)) (by first | (simp; done) | (simp; omega) | omega)) (by first | (simp; done) | (simp; omega) | omega), cell_ne (cell_ne (cell_ne (cell_step (cell_stepD Yqb0 b19) b20) (by first | (simp; done) | (simp; omega) | omega)) (by first | (simp; done) | (simp; omega) | omega)) (by first | (simp; done) | (simp; omega) | omega), cell_ne (cell_ne (cell_ne (cell_step (cell_stepD Yqb1 b19) b20) (by first | (simp; done) | (simp; omega) | omega)) (by first | (simp; done) | (simp; omega) | omega)) (by first | (simp; done) | (simp; omega) | omega)⟩))
      (first | (go_at_call 37; refine (natMul_out b cb ds b2 cb2 es D _ (HB.out.below (B.out.drew)) (HB2.out.below (B.out.drew)) (by omega) (by omega) HD.out HE.out HDD.out).mono ?_; rintro e W19 ⟨p5, c5, rfl, hO5, b19⟩; have s19 := b19.size; (try simp at s19)) | (go_at_call 35; refine (HL.out _ p3 c3 p5 c5 _ _ (Two.of ((O3.out.below (Below.refl _ _).drew).below b19) hO5 (Nat.le_refl _) (by first | omega | (simp; done) | (simp; omega)) (Nat.le_refl _) (by first | omega | (simp; done) | (simp; omega)) (by first | omega | (simp; done) | (simp; omega))) (Nat.le_refl _)).mono ?_; rintro e W20 ⟨p6, c6, p7, c7, rfl, hO, b20⟩; have s20 := b20.size; (try simp at s20); have Rr := (box_step (box_step (box_drew Rr) b19) b20); have Yr0 := Rr.cell 0 rfl; have Fr0 := Rr.frozen 0; have Yr1 := Rr.cell 1 rfl; have Fr1 := Rr.frozen 1; have Yr2 := Rr.cell 2 rfl; have Fr2 := Rr.frozen 2; have Lr := Rr.lt))
    have sb19 := b19.size
    try simp at sb19
    have sb20 := b20.size
    have O3 := Lib.hid (((O3.out.below (Below.refl _ _).drew).below b19).below b20)
    have O5 := Lib.hid ((hO5.below b20))
    clear hO5
    have O := Lib.hid (hO)
    clear hO
    have B := Lib.hid (bstep (bstepD B.out b19) b20)
    clear b19 b20
    go_wp2
    refine bodyPost_ret (v := .agg #[.bool R.neg, .slice p6 R.num.length c6, .slice p7 R.den.length c7]) (by simp [results, Tryz.results27, go_sem, Yr0, Yr1, Yr2, Lr]) rfl ⟨p6, c6, p7, c7, rfl, rat_endR (by first | omega | (simp; done) | (simp; omega)) (by first | omega | (simp; done) | (simp; omega)) O.out (by first | omega | (simp; done) | (simp; omega)) B.out _ _ _⟩

include ha hb ha2 hb2 in
theorem plus_any (h1 : ratOkB n xs ds = true) (h2 : ratOkB m ys es = true) : Calls Tryz.prog 27 #[.agg #[.bool n, .slice a xs.length ca, .slice b ds.length cb], .agg #[.bool m, .slice a2 ys.length ca2, .slice b2 es.length cb2]] w (RatRet w (ratAddP n xs ds m ys es)) := by
  by_cases k1 : smallB xs ds = true
  · by_cases k2 : smallB ys es = true
    · exact plus_small n a ca xs b cb ds m a2 ca2 ys b2 cb2 es w ha hb ha2 hb2 h1 h2 k1 k2
    · exact plus_tf n a ca xs b cb ds m a2 ca2 ys b2 cb2 es w ha hb ha2 hb2 h1 h2 k1 (Bool.eq_false_iff.2 k2)
  · exact plus_f n a ca xs b cb ds m a2 ca2 ys b2 cb2 es w ha hb ha2 hb2 h1 h2 (Bool.eq_false_iff.2 k1)

set_option maxHeartbeats 4000000 in
include ha hb ha2 hb2 in
theorem compare_small (h1 : ratOkB n xs ds = true) (h2 : ratOkB m ys es = true) (hs1 : smallB xs ds = true) (hs2 : smallB ys es = true) : Calls Tryz.prog 29 #[.agg #[.bool n, .slice a xs.length ca, .slice b ds.length cb], .agg #[.bool m, .slice a2 ys.length ca2, .slice b2 es.length cb2]] w (fun e w' => e = .returned (.int .i64 (ratCmpV n xs ds m ys es)) ∧ Below w.heap.size w w') := by
  have hlx := rok_lx h1
  have hld := rok_ld h1
  have hly := rok_lx h2
  have hle := rok_ld h2
  have HX := Lib.hid (rok_rx h1)
  have HD := Lib.hid (rok_rd h1)
  have HY := Lib.hid (rok_rx h2)
  have HE := Lib.hid (rok_rd h2)
  obtain ⟨u, hu⟩ : ∃ u, toI n xs = u := ⟨_, rfl⟩
  obtain ⟨d, hd⟩ : ∃ d, ((val ds : Nat) : Int) = d := ⟨_, rfl⟩
  obtain ⟨v, hv⟩ : ∃ v, toI m ys = v := ⟨_, rfl⟩
  obtain ⟨f, hf⟩ : ∃ f, ((val es : Nat) : Int) = f := ⟨_, rfl⟩
  obtain ⟨su1, su2, sd1, sd2⟩ := small_size h1 hs1
  obtain ⟨sv1, sv2, sf1, sf2⟩ := small_size h2 hs2
  rw [hu] at su1 su2
  rw [hd] at sd1 sd2
  rw [hv] at sv1 sv2
  rw [hf] at sf1 sf2
  have HU := Lib.hid hu
  have HDD := Lib.hid hd
  have HV := Lib.hid hv
  have HFF := Lib.hid hf
  obtain ⟨pa1, pa2⟩ := prod_b ⟨su1, su2⟩ ⟨sf1, sf2⟩
  obtain ⟨pb1, pb2⟩ := prod_b ⟨sv1, sv2⟩ ⟨sd1, sd2⟩
  obtain ⟨pc1, pc2⟩ := prod_p ⟨sd1, sd2⟩ ⟨sf1, sf2⟩
  obtain ⟨pe1, pe2⟩ := prod_s ⟨su1, su2⟩ ⟨sv1, sv2⟩
  have HRR : Hid (signZ (u * f - v * d) = ratCmpV n xs ds m ys es) := by
    unfold Hid ratCmpV
    rw [signZ_sub, hu, hv, hd, hf]
  clear h1 h2 hu hd hv hf hlx hld hly hle
  have HA := Lib.hid ha
  have HB := Lib.hid hb
  have HA2 := Lib.hid ha2
  have HB2 := Lib.hid hb2
  clear ha hb ha2 hb2
  go_enter Tryz.func29, Tryz.ntmps29
  go_wp2_with fail
  refine (isSmall_any n a ca xs b cb ds _).mono ?_
  rintro e W21 ⟨rfl, b21⟩
  have Rx := bx2_0 b21
  have Ry := bx2_1 b21
  have B := Lib.hid (bstep (ba2 _ _ _) b21)
  have sb21 := b21.size
  try simp at sb21
  have Yx0 := Rx.cell 0 rfl
  have Yx1 := Rx.cell 1 rfl
  have Yx2 := Rx.cell 2 rfl
  have Lx := Rx.lt
  have Yy0 := Ry.cell 0 rfl
  have Yy1 := Ry.cell 1 rfl
  have Yy2 := Ry.cell 2 rfl
  have Ly := Ry.lt
  clear b21
  go_wp2_with fail
  refine (isSmall_any m a2 ca2 ys b2 cb2 es _).mono ?_
  rintro e W22 ⟨rfl, b22⟩
  clear Yx0 Yx1 Yx2 Lx Yy0 Yy1 Yy2 Ly
  have Rx := box_step Rx b22
  have Ry := box_step Ry b22
  have B := Lib.hid (bstep B.out b22)
  have sb22 := b22.size
  have Yx0 := Rx.cell 0 rfl
  have Yx1 := Rx.cell 1 rfl
  have Yx2 := Rx.cell 2 rfl
  have Lx := Rx.lt
  have Yy0 := Ry.cell 0 rfl
  have Yy1 := Ry.cell 1 rfl
  have Yy2 := Ry.cell 2 rfl
  have Ly := Ry.lt
  clear b22
  go_wp2_with fail
  refine (small_any n a ca xs b cb ds u d _ (HA.out.below B.out) (HB.out.below B.out) hs1 HX.out HD.out HU.out HDD.out).mono ?_
  rintro e W23 ⟨rfl, b23⟩
  clear Yx0 Yx1 Yx2 Lx Yy0 Yy1 Yy2 Ly
  have Rx := box_step Rx b23
  have Ry := box_step Ry b23
  have B := Lib.hid (bstep B.out b23)
  have sb23 := b23.size
  have Yx0 := Rx.cell 0 rfl
  have Yx1 := Rx.cell 1 rfl
  have Yx2 := Rx.cell 2 rfl
  have Lx := Rx.lt
  have Yy0 := Ry.cell 0 rfl
  have Yy1 := Ry.cell 1 rfl
  have Yy2 := Ry.cell 2 rfl
  have Ly := Ry.lt
  clear b23
  go_wp2_with fail
  refine (small_any m a2 ca2 ys b2 cb2 es v f _ (HA2.out.below B.out) (HB2.out.below B.out) hs2 HY.out HE.out HV.out HFF.out).mono ?_
  rintro e W24 ⟨rfl, b24⟩
  clear Yx0 Yx1 Yx2 Lx Yy0 Yy1 Yy2 Ly
  have Rx := box_step Rx b24
  have Ry := box_step Ry b24
  have B := Lib.hid (bstep B.out b24)
  have sb24 := b24.size
  have Yx0 := Rx.cell 0 rfl
  have Yx1 := Rx.cell 1 rfl
  have Yx2 := Rx.cell 2 rfl
  have Lx := Rx.lt
  have Yy0 := Ry.cell 0 rfl
  have Yy1 := Ry.cell 1 rfl
  have Yy2 := Ry.cell 2 rfl
  have Ly := Ry.lt
  clear b24
  go_wp2_with fail
  refine (signOf_any (u * f - v * d) _).mono ?_
  rintro e W25 ⟨rfl, b25⟩
  clear Yx0 Yx1 Yx2 Lx Yy0 Yy1 Yy2 Ly
  have Rx := box_step Rx b25
  have Ry := box_step Ry b25
  have B := Lib.hid (bstep B.out b25)
  have sb25 := b25.size
  have Yx0 := Rx.cell 0 rfl
  have Yx1 := Rx.cell 1 rfl
  have Yx2 := Rx.cell 2 rfl
  have Lx := Rx.lt
  have Yy0 := Ry.cell 0 rfl
  have Yy1 := Ry.cell 1 rfl
  have Yy2 := Ry.cell 2 rfl
  have Ly := Ry.lt
  clear b25
  go_wp2
  go_ret
  exact ⟨ret_int HRR.out, B.out⟩

set_option maxHeartbeats 4000000 in
set_option maxRecDepth 100000 in
include ha hb ha2 hb2 in
theorem compare_f (h1 : ratOkB n xs ds = true) (h2 : ratOkB m ys es = true) (hs1 : smallB xs ds = false) : Calls Tryz.prog 29 #[.agg #[.bool n, .slice a xs.length ca, .slice b ds.length cb], .agg #[.bool m, .slice a2 ys.length ca2, .slice b2 es.length cb2]] w (fun e w' => e = .returned (.int .i64 (ratCmpV n xs ds m ys es)) ∧ Below w.heap.size w w') := by
  have hlx := rok_lx h1
  have hld := rok_ld h1
  have hly := rok_lx h2
  have hle := rok_ld h2
  have HX := Lib.hid (rok_rx h1)
  have HD := Lib.hid (rok_rd h1)
  have HY := Lib.hid (rok_rx h2)
  have HE := Lib.hid (rok_rd h2)
  obtain ⟨z1, ez1⟩ : ∃ z1, toI n xs * toI false es = z1 := ⟨_, rfl⟩
  obtain ⟨z2, ez2⟩ : ∃ z2, toI m ys * toI false ds = z2 := ⟨_, rfl⟩
  have hz1 : (digs z1.natAbs).length ≤ 48 := by rw [← ez1, Int.natAbs_mul, toI_natAbs, toI_natAbs]; exact digs_mul_len (rok_rx h1) (rok_rd h2) (by omega) (by omega)
  have hz2 : (digs z2.natAbs).length ≤ 48 := by rw [← ez2, Int.natAbs_mul, toI_natAbs, toI_natAbs]; exact digs_mul_len (rok_rx h2) (rok_rd h1) (by omega) (by omega)
  have hm1 : (ofI z1).mag.length ≤ 48 := hz1
  have hm3 : (ofI z2).mag.length ≤ 48 := hz2
  have HRR : Hid (cmpZ z1 z2 = ratCmpV n xs ds m ys es) := by
    unfold Hid ratCmpV
    rw [← ez1, ← ez2, toI_false, toI_false]
  have E1 := Lib.hid ez1
  have E2 := Lib.hid ez2
  clear ez1 ez2 h1 h2 hz1 hz2
  have HA := Lib.hid ha
  have HB := Lib.hid hb
  have HA2 := Lib.hid ha2
  have HB2 := Lib.hid hb2
  clear ha hb ha2 hb2
  go_enter Tryz.func29, Tryz.ntmps29
  go_wp2_with fail
  refine (isSmall_any n a ca xs b cb ds _).mono ?_
  rintro e W26 ⟨rfl, b26⟩
  have Rx := bx2_0 b26
  have Ry := bx2_1 b26
  have B := Lib.hid (bstep (ba2 _ _ _) b26)
  have sb26 := b26.size
  try simp at sb26
  have Yx0 := Rx.cell 0 rfl
  have Yx1 := Rx.cell 1 rfl
  have Yx2 := Rx.cell 2 rfl
  have Lx := Rx.lt
  have Yy0 := Ry.cell 0 rfl
  have Yy1 := Ry.cell 1 rfl
  have Yy2 := Ry.cell 2 rfl
  have Ly := Ry.lt
  clear b26
  have tok27 : True := trivial
  have tok28 : True := trivial
  go_wp2_with fail
  go_region_held3 (fun w' => w'.cell? ⟨w.heap.size, 0, none⟩ = some (.bool n) ∧ w'.cell? ⟨w.heap.size, 1, none⟩ = some (.slice a xs.length ca) ∧ w'.cell? ⟨w.heap.size, 2, none⟩ = some (.slice b ds.length cb) ∧ w'.cell? ⟨w.heap.size + 1, 0, none⟩ = some (.bool m) ∧ w'.cell? ⟨w.heap.size + 1, 1, none⟩ = some (.slice a2 ys.length ca2) ∧ w'.cell? ⟨w.heap.size + 1, 2, none⟩ = some (.slice b2 es.length cb2))
    ((first | exact ⟨Yx0, Yx1, Yx2, Yy0, Yy1, Yy2⟩ | exact ⟨cell_stepD Yx0 b27, cell_stepD Yx1 b27, cell_stepD Yx2 b27, cell_stepD Yy0 b27, cell_stepD Yy1 b27, cell_stepD Yy2 b27⟩ | exact ⟨cell_step (cell_stepD Yx0 b27) b28, cell_step (cell_stepD Yx1 b27) b28, cell_step (cell_stepD Yx2 b27) b28, cell_step (cell_stepD Yy0 b27) b28, cell_step (cell_stepD Yy1 b27) b28, cell_step (cell_stepD Yy2 b27) b28⟩ | exact ⟨cell_step (cell_step (cell_stepD Yx0 b27) b28) b29, cell_step (cell_step (cell_stepD Yx1 b27) b28) b29, cell_step (cell_step (cell_stepD Yx2 b27) b28) b29, cell_step (cell_step (cell_stepD Yy0 b27) b28) b29, cell_step (cell_step (cell_stepD Yy1 b27) b28) b29, cell_step (cell_step (cell_stepD Yy2 b27) b28) b29⟩))
    (first | (go_at_call 36; clear tok27; refine (bigMul_of n a ca xs false b2 cb2 es z1 _ (HA.out.below (B.out.drew)) (by omega) (HB2.out.below (B.out.drew)) (by omega) HX.out HE.out E1.out).mono ?_; rintro e W27 ⟨p1, c1, rfl, hU1, b27⟩; have s27 := b27.size; (try simp at s27)) | (go_at_call 36; clear tok28; refine (bigMul_of m a2 ca2 ys false b cb ds z2 _ (HA2.out.below (bstepD B.out b27)) (by omega) (HB.out.below (bstepD B.out b27)) (by omega) HY.out HD.out E2.out).mono ?_; rintro e W28 ⟨p2, c2, rfl, hU2, b28⟩; have s28 := b28.size; (try simp at s28)) | (go_at_call 60; refine (bigCmp_of z1 z2 p1 c1 p2 c2 _ (hU1.below b28).ints (by omega) hU2.ints (by omega)).mono ?_; rintro e W29 ⟨rfl, b29⟩; have s29 := b29.size; (try simp at s29)))
  have sb27 := b27.size
  try simp at sb27
  have sb28 := b28.size
  have sb29 := b29.size
  have U1 := Lib.hid (((hU1.below b28).below b29))
  clear hU1
  have U2 := Lib.hid ((hU2.below b29))
  clear hU2
  have B := Lib.hid (bstep (bstep (bstepD B.out b27) b28) b29)
  clear Yx0 Yx1 Yx2 Lx Yy0 Yy1 Yy2 Ly
  have Rx := (box_step (box_step (box_step (box_drew Rx) b27) b28) b29)
  have Ry := (box_step (box_step (box_step (box_drew Ry) b27) b28) b29)
  have Yx0 := Rx.cell 0 rfl
  have Yx1 := Rx.cell 1 rfl
  have Yx2 := Rx.cell 2 rfl
  have Lx := Rx.lt
  have Yy0 := Ry.cell 0 rfl
  have Yy1 := Ry.cell 1 rfl
  have Yy2 := Ry.cell 2 rfl
  have Ly := Ry.lt
  clear b27 b28 b29
  go_wp2
  go_ret
  exact ⟨ret_int HRR.out, B.out⟩

set_option maxHeartbeats 4000000 in
set_option maxRecDepth 100000 in
include ha hb ha2 hb2 in
theorem compare_tf (h1 : ratOkB n xs ds = true) (h2 : ratOkB m ys es = true) (hs1 : smallB xs ds = true) (hs2 : smallB ys es = false) : Calls Tryz.prog 29 #[.agg #[.bool n, .slice a xs.length ca, .slice b ds.length cb], .agg #[.bool m, .slice a2 ys.length ca2, .slice b2 es.length cb2]] w (fun e w' => e = .returned (.int .i64 (ratCmpV n xs ds m ys es)) ∧ Below w.heap.size w w') := by
  have hlx := rok_lx h1
  have hld := rok_ld h1
  have hly := rok_lx h2
  have hle := rok_ld h2
  have HX := Lib.hid (rok_rx h1)
  have HD := Lib.hid (rok_rd h1)
  have HY := Lib.hid (rok_rx h2)
  have HE := Lib.hid (rok_rd h2)
  obtain ⟨z1, ez1⟩ : ∃ z1, toI n xs * toI false es = z1 := ⟨_, rfl⟩
  obtain ⟨z2, ez2⟩ : ∃ z2, toI m ys * toI false ds = z2 := ⟨_, rfl⟩
  have hz1 : (digs z1.natAbs).length ≤ 48 := by rw [← ez1, Int.natAbs_mul, toI_natAbs, toI_natAbs]; exact digs_mul_len (rok_rx h1) (rok_rd h2) (by omega) (by omega)
  have hz2 : (digs z2.natAbs).length ≤ 48 := by rw [← ez2, Int.natAbs_mul, toI_natAbs, toI_natAbs]; exact digs_mul_len (rok_rx h2) (rok_rd h1) (by omega) (by omega)
  have hm1 : (ofI z1).mag.length ≤ 48 := hz1
  have hm3 : (ofI z2).mag.length ≤ 48 := hz2
  have HRR : Hid (cmpZ z1 z2 = ratCmpV n xs ds m ys es) := by
    unfold Hid ratCmpV
    rw [← ez1, ← ez2, toI_false, toI_false]
  have E1 := Lib.hid ez1
  have E2 := Lib.hid ez2
  clear ez1 ez2 h1 h2 hz1 hz2
  have HA := Lib.hid ha
  have HB := Lib.hid hb
  have HA2 := Lib.hid ha2
  have HB2 := Lib.hid hb2
  clear ha hb ha2 hb2
  go_enter Tryz.func29, Tryz.ntmps29
  go_wp2_with fail
  refine (isSmall_any n a ca xs b cb ds _).mono ?_
  rintro e W30 ⟨rfl, b30⟩
  have Rx := bx2_0 b30
  have Ry := bx2_1 b30
  have B := Lib.hid (bstep (ba2 _ _ _) b30)
  have sb30 := b30.size
  try simp at sb30
  have Yx0 := Rx.cell 0 rfl
  have Yx1 := Rx.cell 1 rfl
  have Yx2 := Rx.cell 2 rfl
  have Lx := Rx.lt
  have Yy0 := Ry.cell 0 rfl
  have Yy1 := Ry.cell 1 rfl
  have Yy2 := Ry.cell 2 rfl
  have Ly := Ry.lt
  clear b30
  go_wp2_with fail
  refine (isSmall_any m a2 ca2 ys b2 cb2 es _).mono ?_
  rintro e W31 ⟨rfl, b31⟩
  clear Yx0 Yx1 Yx2 Lx Yy0 Yy1 Yy2 Ly
  have Rx := box_step Rx b31
  have Ry := box_step Ry b31
  have B := Lib.hid (bstep B.out b31)
  have sb31 := b31.size
  have Yx0 := Rx.cell 0 rfl
  have Yx1 := Rx.cell 1 rfl
  have Yx2 := Rx.cell 2 rfl
  have Lx := Rx.lt
  have Yy0 := Ry.cell 0 rfl
  have Yy1 := Ry.cell 1 rfl
  have Yy2 := Ry.cell 2 rfl
  have Ly := Ry.lt
  clear b31
  have tok32 : True := trivial
  have tok33 : True := trivial
  go_wp2_with fail
  go_region_held3 (fun w' => w'.cell? ⟨w.heap.size, 0, none⟩ = some (.bool n) ∧ w'.cell? ⟨w.heap.size, 1, none⟩ = some (.slice a xs.length ca) ∧ w'.cell? ⟨w.heap.size, 2, none⟩ = some (.slice b ds.length cb) ∧ w'.cell? ⟨w.heap.size + 1, 0, none⟩ = some (.bool m) ∧ w'.cell? ⟨w.heap.size + 1, 1, none⟩ = some (.slice a2 ys.length ca2) ∧ w'.cell? ⟨w.heap.size + 1, 2, none⟩ = some (.slice b2 es.length cb2))
    ((first | exact ⟨Yx0, Yx1, Yx2, Yy0, Yy1, Yy2⟩ | exact ⟨cell_stepD Yx0 b32, cell_stepD Yx1 b32, cell_stepD Yx2 b32, cell_stepD Yy0 b32, cell_stepD Yy1 b32, cell_stepD Yy2 b32⟩ | exact ⟨cell_step (cell_stepD Yx0 b32) b33, cell_step (cell_stepD Yx1 b32) b33, cell_step (cell_stepD Yx2 b32) b33, cell_step (cell_stepD Yy0 b32) b33, cell_step (cell_stepD Yy1 b32) b33, cell_step (cell_stepD Yy2 b32) b33⟩ | exact ⟨cell_step (cell_step (cell_stepD Yx0 b32) b33) b34, cell_step (cell_step (cell_stepD Yx1 b32) b33) b34, cell_step (cell_step (cell_stepD Yx2 b32) b33) b34, cell_step (cell_step (cell_stepD Yy0 b32) b33) b34, cell_step (cell_step (cell_stepD Yy1 b32) b33) b34, cell_step (cell_step (cell_stepD Yy2 b32) b33) b34⟩))
    (first | (go_at_call 36; clear tok32; refine (bigMul_of n a ca xs false b2 cb2 es z1 _ (HA.out.below (B.out.drew)) (by omega) (HB2.out.below (B.out.drew)) (by omega) HX.out HE.out E1.out).mono ?_; rintro e W32 ⟨p1, c1, rfl, hU1, b32⟩; have s32 := b32.size; (try simp at s32)) | (go_at_call 36; clear tok33; refine (bigMul_of m a2 ca2 ys false b cb ds z2 _ (HA2.out.below (bstepD B.out b32)) (by omega) (HB.out.below (bstepD B.out b32)) (by omega) HY.out HD.out E2.out).mono ?_; rintro e W33 ⟨p2, c2, rfl, hU2, b33⟩; have s33 := b33.size; (try simp at s33)) | (go_at_call 60; refine (bigCmp_of z1 z2 p1 c1 p2 c2 _ (hU1.below b33).ints (by omega) hU2.ints (by omega)).mono ?_; rintro e W34 ⟨rfl, b34⟩; have s34 := b34.size; (try simp at s34)))
  have sb32 := b32.size
  try simp at sb32
  have sb33 := b33.size
  have sb34 := b34.size
  have U1 := Lib.hid (((hU1.below b33).below b34))
  clear hU1
  have U2 := Lib.hid ((hU2.below b34))
  clear hU2
  have B := Lib.hid (bstep (bstep (bstepD B.out b32) b33) b34)
  clear Yx0 Yx1 Yx2 Lx Yy0 Yy1 Yy2 Ly
  have Rx := (box_step (box_step (box_step (box_drew Rx) b32) b33) b34)
  have Ry := (box_step (box_step (box_step (box_drew Ry) b32) b33) b34)
  have Yx0 := Rx.cell 0 rfl
  have Yx1 := Rx.cell 1 rfl
  have Yx2 := Rx.cell 2 rfl
  have Lx := Rx.lt
  have Yy0 := Ry.cell 0 rfl
  have Yy1 := Ry.cell 1 rfl
  have Yy2 := Ry.cell 2 rfl
  have Ly := Ry.lt
  clear b32 b33 b34
  go_wp2
  go_ret
  exact ⟨ret_int HRR.out, B.out⟩

include ha hb ha2 hb2 in
theorem ratCompare_any (h1 : ratOkB n xs ds = true) (h2 : ratOkB m ys es = true) : Calls Tryz.prog 29 #[.agg #[.bool n, .slice a xs.length ca, .slice b ds.length cb], .agg #[.bool m, .slice a2 ys.length ca2, .slice b2 es.length cb2]] w (fun e w' => e = .returned (.int .i64 (ratCmpV n xs ds m ys es)) ∧ Below w.heap.size w w') := by
  by_cases k1 : smallB xs ds = true
  · by_cases k2 : smallB ys es = true
    · exact compare_small n a ca xs b cb ds m a2 ca2 ys b2 cb2 es w ha hb ha2 hb2 h1 h2 k1 k2
    · exact compare_tf n a ca xs b cb ds m a2 ca2 ys b2 cb2 es w ha hb ha2 hb2 h1 h2 k1 (Bool.eq_false_iff.2 k2)
  · exact compare_f n a ca xs b cb ds m a2 ca2 ys b2 cb2 es w ha hb ha2 hb2 h1 h2 (Bool.eq_false_iff.2 k1)
end
open Go.RowKit
section
variable (n : Bool) (a : Option Addr) (ca : Nat) (xs : List Int) (b : Option Addr) (cb : Nat) (ds : List Int) (m : Bool) (a2 : Option Addr) (ca2 : Nat) (ys : List Int) (b2 : Option Addr) (cb2 : Nat) (es : List Int) (w : World) (ha : IntsAt w a ca xs) (hn : xs.length ≤ 1048576) (hb : IntsAt w b cb ds) (hm : ds.length ≤ 1048576) (ha2 : IntsAt w a2 ca2 ys) (hn2 : ys.length ≤ 1048576) (hb2 : IntsAt w b2 cb2 es) (hm2 : es.length ≤ 1048576)
set_option maxHeartbeats 4000000 in
set_option maxRecDepth 100000 in
include ha hn hb hm ha2 hn2 hb2 hm2 in
theorem implRatAdd_any : Calls Tryz.prog 9 #[.agg #[.bool n, .slice a xs.length ca, .slice b ds.length cb], .agg #[.bool m, .slice a2 ys.length ca2, .slice b2 es.length cb2]] w (RatRet w (ratAddP n xs ds m ys es)) := by
  have HA := Lib.hid ha
  have HB := Lib.hid hb
  have HA2 := Lib.hid ha2
  have HB2 := Lib.hid hb2
  clear ha hb ha2 hb2
  by_cases h1 : ratOkB n xs ds = true
  · by_cases h2 : ratOkB m ys es = true
    · have HOK : Hid ((ratOkB n xs ds && ratOkB m ys es) = true) := by unfold Hid; rw [h1, h2]; rfl
      obtain ⟨R, hR⟩ : ∃ R, ratAddP n xs ds m ys es = R := ⟨_, rfl⟩
      have HL : Hid (∀ W, IntsAt W a ca xs → IntsAt W b cb ds → IntsAt W a2 ca2 ys → IntsAt W b2 cb2 es → Calls Tryz.prog 27 #[.agg #[.bool n, .slice a xs.length ca, .slice b ds.length cb], .agg #[.bool m, .slice a2 ys.length ca2, .slice b2 es.length cb2]] W (RatRet W R)) := fun W i1 i2 i3 i4 => hR ▸ plus_any n a ca xs b cb ds m a2 ca2 ys b2 cb2 es W i1 i2 i3 i4 h1 h2
      rw [hR]
      clear hR h1 h2
      go_enter Tryz.func9, Tryz.ntmps9
      go_wp2_with fail
      refine (areRats_any n a ca xs b cb ds m a2 ca2 ys b2 cb2 es _ (HA.out.below (bstep (ba3 _ _ _ _) (bstep (Below.refl _ _) (ba1 _ _)))) hn (HB.out.below (bstep (ba3 _ _ _ _) (bstep (Below.refl _ _) (ba1 _ _)))) hm (HA2.out.below (bstep (ba3 _ _ _ _) (bstep (Below.refl _ _) (ba1 _ _)))) hn2 (HB2.out.below (bstep (ba3 _ _ _ _) (bstep (Below.refl _ _) (ba1 _ _)))) hm2 (w.heap.size + 3) (bx4_3 (Below.refl _ _)) true HOK.out).mono ?_
      rintro e W35 ⟨rfl, b35⟩
      replace b35 := bstep (bstep (Below.refl _ _) (ba1 _ _)) b35
      have Rx := bx3_0 b35
      have Ry := bx3_1 b35
      have Rr := bx3_2 b35
      have B := Lib.hid (bstep (ba3 _ _ _ _) b35)
      have sb35 := b35.size
      try simp at sb35
      have Yx0 := Rx.cell 0 rfl
      have Yx1 := Rx.cell 1 rfl
      have Yx2 := Rx.cell 2 rfl
      have Lx := Rx.lt
      have Yy0 := Ry.cell 0 rfl
      have Yy1 := Ry.cell 1 rfl
      have Yy2 := Ry.cell 2 rfl
      have Ly := Ry.lt
      have Yr0 := Rr.cell 0 rfl
      have Yr1 := Rr.cell 1 rfl
      have Yr2 := Rr.cell 2 rfl
      have Lr := Rr.lt
      have Fr0 := Rr.frozen 0
      have Fr1 := Rr.frozen 1
      have Fr2 := Rr.frozen 2
      clear b35
      go_wp2_with fail
      refine (HL.out _ (HA.out.below B.out) (HB.out.below B.out) (HA2.out.below B.out) (HB2.out.below B.out)).mono ?_
      rintro e W36 ⟨p, c, p2, c2, rfl, hO, b36⟩
      clear Yx0 Yx1 Yx2 Lx Yy0 Yy1 Yy2 Ly Yr0 Yr1 Yr2 Lr Fr0 Fr1 Fr2
      have Rx := box_step Rx b36
      have Ry := box_step Ry b36
      have Rr := box_step Rr b36
      have B := Lib.hid (bstep B.out b36)
      have sb36 := b36.size
      have O := Lib.hid hO
      clear hO
      have Yx0 := Rx.cell 0 rfl
      have Yx1 := Rx.cell 1 rfl
      have Yx2 := Rx.cell 2 rfl
      have Lx := Rx.lt
      have Yy0 := Ry.cell 0 rfl
      have Yy1 := Ry.cell 1 rfl
      have Yy2 := Ry.cell 2 rfl
      have Ly := Ry.lt
      have Yr0 := Rr.cell 0 rfl
      have Yr1 := Rr.cell 1 rfl
      have Yr2 := Rr.cell 2 rfl
      have Lr := Rr.lt
      have Fr0 := Rr.frozen 0
      have Fr1 := Rr.frozen 1
      have Fr2 := Rr.frozen 2
      clear b36
      go_wp2
      refine bodyPost_ret (v := .agg #[.bool R.neg, .slice p R.num.length c, .slice p2 R.den.length c2]) (by simp [results, Tryz.results9, go_sem, Yr0, Yr1, Yr2, Lr]) rfl ⟨p, c, p2, c2, rfl, rat_endR (by first | omega | (simp; done) | (simp; omega)) (by first | omega | (simp; done) | (simp; omega)) O.out (by first | omega | (simp; done) | (simp; omega)) B.out _ _ _⟩
    · have h2' := Bool.eq_false_iff.2 h2
      have HOK : Hid ((ratOkB n xs ds && ratOkB m ys es) = false) := by unfold Hid; rw [h2', Bool.and_false]
      rw [ratAddP_no2 h2']
      clear h1 h2 h2'
      go_enter Tryz.func9, Tryz.ntmps9
      go_wp2_with fail
      refine (areRats_any n a ca xs b cb ds m a2 ca2 ys b2 cb2 es _ (HA.out.below (bstep (ba3 _ _ _ _) (bstep (Below.refl _ _) (ba1 _ _)))) hn (HB.out.below (bstep (ba3 _ _ _ _) (bstep (Below.refl _ _) (ba1 _ _)))) hm (HA2.out.below (bstep (ba3 _ _ _ _) (bstep (Below.refl _ _) (ba1 _ _)))) hn2 (HB2.out.below (bstep (ba3 _ _ _ _) (bstep (Below.refl _ _) (ba1 _ _)))) hm2 (w.heap.size + 3) (bx4_3 (Below.refl _ _)) false HOK.out).mono ?_
      rintro e W37 ⟨rfl, b37⟩
      replace b37 := bstep (bstep (Below.refl _ _) (ba1 _ _)) b37
      have Rx := bx3_0 b37
      have Ry := bx3_1 b37
      have Rr := bx3_2 b37
      have B := Lib.hid (bstep (ba3 _ _ _ _) b37)
      have sb37 := b37.size
      try simp at sb37
      have Yx0 := Rx.cell 0 rfl
      have Yx1 := Rx.cell 1 rfl
      have Yx2 := Rx.cell 2 rfl
      have Lx := Rx.lt
      have Yy0 := Ry.cell 0 rfl
      have Yy1 := Ry.cell 1 rfl
      have Yy2 := Ry.cell 2 rfl
      have Ly := Ry.lt
      have Yr0 := Rr.cell 0 rfl
      have Yr1 := Rr.cell 1 rfl
      have Yr2 := Rr.cell 2 rfl
      have Lr := Rr.lt
      have Fr0 := Rr.frozen 0
      have Fr1 := Rr.frozen 1
      have Fr2 := Rr.frozen 2
      clear b37
      go_wp2
      refine bodyPost_ret (v := .agg #[.bool false, .slice none 0 0, .slice none 0 0]) (by simp [results, Tryz.results9, go_sem, Yr0, Yr1, Yr2, Lr]) rfl ⟨none, 0, none, 0, rfl, ratz_endR (by first | omega | (simp; done) | (simp; omega)) B.out _ _ _⟩
  · have h1' := Bool.eq_false_iff.2 h1
    have HOK : Hid ((ratOkB n xs ds && ratOkB m ys es) = false) := by unfold Hid; rw [h1']; rfl
    rw [ratAddP_no1 h1']
    clear h1 h1'
    go_enter Tryz.func9, Tryz.ntmps9
    go_wp2_with fail
    refine (areRats_any n a ca xs b cb ds m a2 ca2 ys b2 cb2 es _ (HA.out.below (bstep (ba3 _ _ _ _) (bstep (Below.refl _ _) (ba1 _ _)))) hn (HB.out.below (bstep (ba3 _ _ _ _) (bstep (Below.refl _ _) (ba1 _ _)))) hm (HA2.out.below (bstep (ba3 _ _ _ _) (bstep (Below.refl _ _) (ba1 _ _)))) hn2 (HB2.out.below (bstep (ba3 _ _ _ _) (bstep (Below.refl _ _) (ba1 _ _)))) hm2 (w.heap.size + 3) (bx4_3 (Below.refl _ _)) false HOK.out).mono ?_
    rintro e W38 ⟨rfl, b38⟩
    replace b38 := bstep (bstep (Below.refl _ _) (ba1 _ _)) b38
    have Rx := bx3_0 b38
    have Ry := bx3_1 b38
    have Rr := bx3_2 b38
    have B := Lib.hid (bstep (ba3 _ _ _ _) b38)
    have sb38 := b38.size
    try simp at sb38
    have Yx0 := Rx.cell 0 rfl
    have Yx1 := Rx.cell 1 rfl
    have Yx2 := Rx.cell 2 rfl
    have Lx := Rx.lt
    have Yy0 := Ry.cell 0 rfl
    have Yy1 := Ry.cell 1 rfl
    have Yy2 := Ry.cell 2 rfl
    have Ly := Ry.lt
    have Yr0 := Rr.cell 0 rfl
    have Yr1 := Rr.cell 1 rfl
    have Yr2 := Rr.cell 2 rfl
    have Lr := Rr.lt
    have Fr0 := Rr.frozen 0
    have Fr1 := Rr.frozen 1
    have Fr2 := Rr.frozen 2
    clear b38
    go_wp2
    refine bodyPost_ret (v := .agg #[.bool false, .slice none 0 0, .slice none 0 0]) (by simp [results, Tryz.results9, go_sem, Yr0, Yr1, Yr2, Lr]) rfl ⟨none, 0, none, 0, rfl, ratz_endR (by first | omega | (simp; done) | (simp; omega)) B.out _ _ _⟩

set_option maxHeartbeats 4000000 in
set_option maxRecDepth 100000 in
include ha hn hb hm ha2 hn2 hb2 hm2 in
theorem implRatSub_any : Calls Tryz.prog 8 #[.agg #[.bool n, .slice a xs.length ca, .slice b ds.length cb], .agg #[.bool m, .slice a2 ys.length ca2, .slice b2 es.length cb2]] w (RatRet w (ratSubP n xs ds m ys es)) := by
  have HA := Lib.hid ha
  have HB := Lib.hid hb
  have HA2 := Lib.hid ha2
  have HB2 := Lib.hid hb2
  clear ha hb ha2 hb2
  by_cases h1 : ratOkB n xs ds = true
  · by_cases h2 : ratOkB m ys es = true
    · have HOK : Hid ((ratOkB n xs ds && ratOkB m ys es) = true) := by unfold Hid; rw [h1, h2]; rfl
      obtain ⟨R, hR⟩ : ∃ R, ratSubP n xs ds m ys es = R := ⟨_, rfl⟩
      have HL : Hid (∀ W, IntsAt W a ca xs → IntsAt W b cb ds → IntsAt W a2 ca2 ys → IntsAt W b2 cb2 es → Calls Tryz.prog 27 #[.agg #[.bool n, .slice a xs.length ca, .slice b ds.length cb], .agg #[.bool (mkBI (!m) ys).neg, .slice a2 ys.length ca2, .slice b2 es.length cb2]] W (RatRet W R)) := by
        intro W i1 i2 i3 i4
        rw [← hR, ratSub_neg h1 h2]
        exact plus_any n a ca xs b cb ds (mkBI (!m) ys).neg a2 ca2 ys b2 cb2 es W i1 i2 i3 i4 h1 (ratOk_neg h2)
      rw [hR]
      clear hR h1 h2
      go_enter Tryz.func8, Tryz.ntmps8
      go_wp2_with fail
      refine (areRats_any n a ca xs b cb ds m a2 ca2 ys b2 cb2 es _ (HA.out.below (bstep (ba3 _ _ _ _) (bstep (Below.refl _ _) (ba1 _ _)))) hn (HB.out.below (bstep (ba3 _ _ _ _) (bstep (Below.refl _ _) (ba1 _ _)))) hm (HA2.out.below (bstep (ba3 _ _ _ _) (bstep (Below.refl _ _) (ba1 _ _)))) hn2 (HB2.out.below (bstep (ba3 _ _ _ _) (bstep (Below.refl _ _) (ba1 _ _)))) hm2 (w.heap.size + 3) (bx4_3 (Below.refl _ _)) true HOK.out).mono ?_
      rintro e W39 ⟨rfl, b39⟩
      replace b39 := bstep (bstep (Below.refl _ _) (ba1 _ _)) b39
      have Rx := bx3_0 b39
      have Ry := bx3_1 b39
      have Rr := bx3_2 b39
      have B := Lib.hid (bstep (ba3 _ _ _ _) b39)
      have sb39 := b39.size
      try simp at sb39
      have Yx0 := Rx.cell 0 rfl
      have Yx1 := Rx.cell 1 rfl
      have Yx2 := Rx.cell 2 rfl
      have Lx := Rx.lt
      have Yy0 := Ry.cell 0 rfl
      have Yy1 := Ry.cell 1 rfl
      have Yy2 := Ry.cell 2 rfl
      have Ly := Ry.lt
      have Yr0 := Rr.cell 0 rfl
      have Yr1 := Rr.cell 1 rfl
      have Yr2 := Rr.cell 2 rfl
      have Lr := Rr.lt
      have Fr0 := Rr.frozen 0
      have Fr1 := Rr.frozen 1
      have Fr2 := Rr.frozen 2
      clear b39
      go_wp2_with fail
      go_region_held3 (fun w' => w'.cell? ⟨w.heap.size, 0, none⟩ = some (.bool n) ∧ w'.cell? ⟨w.heap.size, 1, none⟩ = some (.slice a xs.length ca) ∧ w'.cell? ⟨w.heap.size, 2, none⟩ = some (.slice b ds.length cb) ∧ w'.cell? ⟨w.heap.size + 1, 0, none⟩ = some (.bool m) ∧ w'.cell? ⟨w.heap.size + 1, 1, none⟩ = some (.slice a2 ys.length ca2) ∧ w'.cell? ⟨w.heap.size + 1, 2, none⟩ = some (.slice b2 es.length cb2))
        ((first | exact ⟨Yx0, Yx1, Yx2, Yy0, Yy1, Yy2⟩ | exact ⟨cell_stepD Yx0 b40, cell_stepD Yx1 b40, cell_stepD Yx2 b40, cell_stepD Yy0 b40, cell_stepD Yy1 b40, cell_stepD Yy2 b40⟩ | exact ⟨cell_step (cell_stepD Yx0 b40) b41, cell_step (cell_stepD Yx1 b40) b41, cell_step (cell_stepD Yx2 b40) b41, cell_step (cell_stepD Yy0 b40) b41, cell_step (cell_stepD Yy1 b40) b41, cell_step (cell_stepD Yy2 b40) b41⟩ | exact ⟨cell_low (cell_low (cell_low (cell_step (cell_stepD Yx0 b40) b41) (by first | (simp; done) | (simp; omega) | omega)) (by first | (simp; done) | (simp; omega) | omega)) (by first | (simp; done) | (simp; omega) | omega), cell_low (cell_low (cell_low (cell_step (cell_stepD Yx1 b40) b41) (by first | (simp; done) | (simp; omega) | omega)) (by first | (simp; done) | (simp; omega) | omega)) (by first | (simp; done) | (simp; omega) | omega), cell_low (cell_low (cell_low (cell_step (cell_stepD Yx2 b40) b41) (by first | (simp; done) | (simp; omega) | omega)) (by first | (simp; done) | (simp; omega) | omega)) (by first | (simp; done) | (simp; omega) | omega), cell_low (cell_low (cell_low (cell_step (cell_stepD Yy0 b40) b41) (by first | (simp; done) | (simp; omega) | omega)) (by first | (simp; done) | (simp; omega) | omega)) (by first | (simp; done) | (simp; omega) | omega), cell_low (cell_low (cell_low (cell_step (cell_stepD Yy1 b40) b41) (by first | (simp; done) | (simp; omega) | omega)) (by first | (simp; done) | (simp; omega) | omega)) (by first | (simp; done) | (simp; omega) | omega), cell_low (cell_low (cell_low (cell_step (cell_stepD Yy2 b40) b41) (by first | (simp; done) | (simp; omega) | omega)) (by first | (simp; done) | (simp; omega) | omega)) (by first | (simp; done) | (simp; omega) | omega)⟩))
        (first | (go_at_call 28; refine (negative_any m a2 ca2 ys b2 cb2 es _).mono ?_; rintro e W40 ⟨rfl, b40⟩; have s40 := b40.size; (try simp at s40)) | (go_at_call 27; refine (HL.out _ (HA.out.below (bstepD B.out b40)) (HB.out.below (bstepD B.out b40)) (HA2.out.below (bstepD B.out b40)) (HB2.out.below (bstepD B.out b40))).mono ?_; rintro e W41 ⟨p, c, p2, c2, rfl, hO, b41⟩; have s41 := b41.size; (try simp at s41); have Rr := (box_step (box_step (box_drew Rr) b40) b41); have Yr0 := Rr.cell 0 rfl; have Fr0 := Rr.frozen 0; have Yr1 := Rr.cell 1 rfl; have Fr1 := Rr.frozen 1; have Yr2 := Rr.cell 2 rfl; have Fr2 := Rr.frozen 2; have Lr := Rr.lt))
      have sb40 := b40.size
      try simp at sb40
      have sb41 := b41.size
      have O := Lib.hid (hO)
      clear hO
      have B := Lib.hid (bstep (bstepD B.out b40) b41)
      clear b40 b41
      go_wp2
      refine bodyPost_ret (v := .agg #[.bool R.neg, .slice p R.num.length c, .slice p2 R.den.length c2]) (by simp [results, Tryz.results8, go_sem, Yr0, Yr1, Yr2, Lr]) rfl ⟨p, c, p2, c2, rfl, rat_endR (by first | omega | (simp; done) | (simp; omega)) (by first | omega | (simp; done) | (simp; omega)) O.out (by first | omega | (simp; done) | (simp; omega)) B.out _ _ _⟩
    · have h2' := Bool.eq_false_iff.2 h2
      have HOK : Hid ((ratOkB n xs ds && ratOkB m ys es) = false) := by unfold Hid; rw [h2', Bool.and_false]
      rw [ratSubP_no2 h2']
      clear h1 h2 h2'
      go_enter Tryz.func8, Tryz.ntmps8
      go_wp2_with fail
      refine (areRats_any n a ca xs b cb ds m a2 ca2 ys b2 cb2 es _ (HA.out.below (bstep (ba3 _ _ _ _) (bstep (Below.refl _ _) (ba1 _ _)))) hn (HB.out.below (bstep (ba3 _ _ _ _) (bstep (Below.refl _ _) (ba1 _ _)))) hm (HA2.out.below (bstep (ba3 _ _ _ _) (bstep (Below.refl _ _) (ba1 _ _)))) hn2 (HB2.out.below (bstep (ba3 _ _ _ _) (bstep (Below.refl _ _) (ba1 _ _)))) hm2 (w.heap.size + 3) (bx4_3 (Below.refl _ _)) false HOK.out).mono ?_
      rintro e W42 ⟨rfl, b42⟩
      replace b42 := bstep (bstep (Below.refl _ _) (ba1 _ _)) b42
      have Rx := bx3_0 b42
      have Ry := bx3_1 b42
      have Rr := bx3_2 b42
      have B := Lib.hid (bstep (ba3 _ _ _ _) b42)
      have sb42 := b42.size
      try simp at sb42
      have Yx0 := Rx.cell 0 rfl
      have Yx1 := Rx.cell 1 rfl
      have Yx2 := Rx.cell 2 rfl
      have Lx := Rx.lt
      have Yy0 := Ry.cell 0 rfl
      have Yy1 := Ry.cell 1 rfl
      have Yy2 := Ry.cell 2 rfl
      have Ly := Ry.lt
      have Yr0 := Rr.cell 0 rfl
      have Yr1 := Rr.cell 1 rfl
      have Yr2 := Rr.cell 2 rfl
      have Lr := Rr.lt
      have Fr0 := Rr.frozen 0
      have Fr1 := Rr.frozen 1
      have Fr2 := Rr.frozen 2
      clear b42
      go_wp2
      refine bodyPost_ret (v := .agg #[.bool false, .slice none 0 0, .slice none 0 0]) (by simp [results, Tryz.results8, go_sem, Yr0, Yr1, Yr2, Lr]) rfl ⟨none, 0, none, 0, rfl, ratz_endR (by first | omega | (simp; done) | (simp; omega)) B.out _ _ _⟩
  · have h1' := Bool.eq_false_iff.2 h1
    have HOK : Hid ((ratOkB n xs ds && ratOkB m ys es) = false) := by unfold Hid; rw [h1']; rfl
    rw [ratSubP_no1 h1']
    clear h1 h1'
    go_enter Tryz.func8, Tryz.ntmps8
    go_wp2_with fail
    refine (areRats_any n a ca xs b cb ds m a2 ca2 ys b2 cb2 es _ (HA.out.below (bstep (ba3 _ _ _ _) (bstep (Below.refl _ _) (ba1 _ _)))) hn (HB.out.below (bstep (ba3 _ _ _ _) (bstep (Below.refl _ _) (ba1 _ _)))) hm (HA2.out.below (bstep (ba3 _ _ _ _) (bstep (Below.refl _ _) (ba1 _ _)))) hn2 (HB2.out.below (bstep (ba3 _ _ _ _) (bstep (Below.refl _ _) (ba1 _ _)))) hm2 (w.heap.size + 3) (bx4_3 (Below.refl _ _)) false HOK.out).mono ?_
    rintro e W43 ⟨rfl, b43⟩
    replace b43 := bstep (bstep (Below.refl _ _) (ba1 _ _)) b43
    have Rx := bx3_0 b43
    have Ry := bx3_1 b43
    have Rr := bx3_2 b43
    have B := Lib.hid (bstep (ba3 _ _ _ _) b43)
    have sb43 := b43.size
    try simp at sb43
    have Yx0 := Rx.cell 0 rfl
    have Yx1 := Rx.cell 1 rfl
    have Yx2 := Rx.cell 2 rfl
    have Lx := Rx.lt
    have Yy0 := Ry.cell 0 rfl
    have Yy1 := Ry.cell 1 rfl
    have Yy2 := Ry.cell 2 rfl
    have Ly := Ry.lt
    have Yr0 := Rr.cell 0 rfl
    have Yr1 := Rr.cell 1 rfl
    have Yr2 := Rr.cell 2 rfl
    have Lr := Rr.lt
    have Fr0 := Rr.frozen 0
    have Fr1 := Rr.frozen 1
    have Fr2 := Rr.frozen 2
    clear b43
    go_wp2
    refine bodyPost_ret (v := .agg #[.bool false, .slice none 0 0, .slice none 0 0]) (by simp [results, Tryz.results8, go_sem, Yr0, Yr1, Yr2, Lr]) rfl ⟨none, 0, none, 0, rfl, ratz_endR (by first | omega | (simp; done) | (simp; omega)) B.out _ _ _⟩

set_option maxHeartbeats 4000000 in
set_option maxRecDepth 100000 in
include ha hn hb hm ha2 hn2 hb2 hm2 in
theorem implRatMul_any : Calls Tryz.prog 14 #[.agg #[.bool n, .slice a xs.length ca, .slice b ds.length cb], .agg #[.bool m, .slice a2 ys.length ca2, .slice b2 es.length cb2]] w (RatRet w (ratMulP n xs ds m ys es)) := by
  have HA := Lib.hid ha
  have HB := Lib.hid hb
  have HA2 := Lib.hid ha2
  have HB2 := Lib.hid hb2
  clear ha hb ha2 hb2
  by_cases h1 : ratOkB n xs ds = true
  · by_cases h2 : ratOkB m ys es = true
    · have HOK : Hid ((ratOkB n xs ds && ratOkB m ys es) = true) := by unfold Hid; rw [h1, h2]; rfl
      by_cases hs1 : smallB xs ds = true
      · by_cases hs2 : smallB ys es = true
        · skip
          have hlx := rok_lx h1
          have hld := rok_ld h1
          have hly := rok_lx h2
          have hle := rok_ld h2
          have HX := Lib.hid (rok_rx h1)
          have HD := Lib.hid (rok_rd h1)
          have HY := Lib.hid (rok_rx h2)
          have HE := Lib.hid (rok_rd h2)
          obtain ⟨u, hu⟩ : ∃ u, toI n xs = u := ⟨_, rfl⟩
          obtain ⟨d, hd⟩ : ∃ d, ((val ds : Nat) : Int) = d := ⟨_, rfl⟩
          obtain ⟨v, hv⟩ : ∃ v, toI m ys = v := ⟨_, rfl⟩
          obtain ⟨f, hf⟩ : ∃ f, ((val es : Nat) : Int) = f := ⟨_, rfl⟩
          obtain ⟨su1, su2, sd1, sd2⟩ := small_size h1 hs1
          obtain ⟨sv1, sv2, sf1, sf2⟩ := small_size h2 hs2
          rw [hu] at su1 su2
          rw [hd] at sd1 sd2
          rw [hv] at sv1 sv2
          rw [hf] at sf1 sf2
          have HU := Lib.hid hu
          have HDD := Lib.hid hd
          have HV := Lib.hid hv
          have HFF := Lib.hid hf
          obtain ⟨pa1, pa2⟩ := prod_b ⟨su1, su2⟩ ⟨sf1, sf2⟩
          obtain ⟨pb1, pb2⟩ := prod_b ⟨sv1, sv2⟩ ⟨sd1, sd2⟩
          obtain ⟨pc1, pc2⟩ := prod_p ⟨sd1, sd2⟩ ⟨sf1, sf2⟩
          obtain ⟨pe1, pe2⟩ := prod_s ⟨su1, su2⟩ ⟨sv1, sv2⟩
          have HRR : Hid (mkRAz (u * v) (d * f).toNat = ratMulP n xs ds m ys es) := by
            rw [Hid, ratMulP_yes h1 h2, mkRA_neg, ← toI_mul, hu, hv, ← hd, ← hf, ← Int.natCast_mul, Int.toNat_natCast]
          obtain ⟨R, hR⟩ : ∃ R, ratMulP n xs ds m ys es = R := ⟨_, rfl⟩
          rw [hR] at HRR ⊢
          clear hR h1 h2 hu hd hv hf hlx hld hly hle
          go_enter Tryz.func14, Tryz.ntmps14
          go_wp2_with fail
          refine (areRats_any n a ca xs b cb ds m a2 ca2 ys b2 cb2 es _ (HA.out.below (bstep (ba3 _ _ _ _) (bstep (Below.refl _ _) (ba1 _ _)))) hn (HB.out.below (bstep (ba3 _ _ _ _) (bstep (Below.refl _ _) (ba1 _ _)))) hm (HA2.out.below (bstep (ba3 _ _ _ _) (bstep (Below.refl _ _) (ba1 _ _)))) hn2 (HB2.out.below (bstep (ba3 _ _ _ _) (bstep (Below.refl _ _) (ba1 _ _)))) hm2 (w.heap.size + 3) (bx4_3 (Below.refl _ _)) true HOK.out).mono ?_
          rintro e W44 ⟨rfl, b44⟩
          replace b44 := bstep (bstep (Below.refl _ _) (ba1 _ _)) b44
          have Rx := bx3_0 b44
          have Ry := bx3_1 b44
          have Rr := bx3_2 b44
          have B := Lib.hid (bstep (ba3 _ _ _ _) b44)
          have sb44 := b44.size
          try simp at sb44
          have Yx0 := Rx.cell 0 rfl
          have Yx1 := Rx.cell 1 rfl
          have Yx2 := Rx.cell 2 rfl
          have Lx := Rx.lt
          have Yy0 := Ry.cell 0 rfl
          have Yy1 := Ry.cell 1 rfl
          have Yy2 := Ry.cell 2 rfl
          have Ly := Ry.lt
          have Yr0 := Rr.cell 0 rfl
          have Yr1 := Rr.cell 1 rfl
          have Yr2 := Rr.cell 2 rfl
          have Lr := Rr.lt
          have Fr0 := Rr.frozen 0
          have Fr1 := Rr.frozen 1
          have Fr2 := Rr.frozen 2
          clear b44
          go_wp2_with fail
          refine (isSmall_any n a ca xs b cb ds _).mono ?_
          rintro e W45 ⟨rfl, b45⟩
          clear Yx0 Yx1 Yx2 Lx Yy0 Yy1 Yy2 Ly Yr0 Yr1 Yr2 Lr Fr0 Fr1 Fr2
          have Rx := box_step Rx b45
          have Ry := box_step Ry b45
          have Rr := box_step Rr b45
          have B := Lib.hid (bstep B.out b45)
          have sb45 := b45.size
          have Yx0 := Rx.cell 0 rfl
          have Yx1 := Rx.cell 1 rfl
          have Yx2 := Rx.cell 2 rfl
          have Lx := Rx.lt
          have Yy0 := Ry.cell 0 rfl
          have Yy1 := Ry.cell 1 rfl
          have Yy2 := Ry.cell 2 rfl
          have Ly := Ry.lt
          have Yr0 := Rr.cell 0 rfl
          have Yr1 := Rr.cell 1 rfl
          have Yr2 := Rr.cell 2 rfl
          have Lr := Rr.lt
          have Fr0 := Rr.frozen 0
          have Fr1 := Rr.frozen 1
          have Fr2 := Rr.frozen 2
          clear b45
          go_wp2_with fail
          refine (isSmall_any m a2 ca2 ys b2 cb2 es _).mono ?_
          rintro e W46 ⟨rfl, b46⟩
          clear Yx0 Yx1 Yx2 Lx Yy0 Yy1 Yy2 Ly Yr0 Yr1 Yr2 Lr Fr0 Fr1 Fr2
          have Rx := box_step Rx b46
          have Ry := box_step Ry b46
          have Rr := box_step Rr b46
          have B := Lib.hid (bstep B.out b46)
          have sb46 := b46.size
          have Yx0 := Rx.cell 0 rfl
          have Yx1 := Rx.cell 1 rfl
          have Yx2 := Rx.cell 2 rfl
          have Lx := Rx.lt
          have Yy0 := Ry.cell 0 rfl
          have Yy1 := Ry.cell 1 rfl
          have Yy2 := Ry.cell 2 rfl
          have Ly := Ry.lt
          have Yr0 := Rr.cell 0 rfl
          have Yr1 := Rr.cell 1 rfl
          have Yr2 := Rr.cell 2 rfl
          have Lr := Rr.lt
          have Fr0 := Rr.frozen 0
          have Fr1 := Rr.frozen 1
          have Fr2 := Rr.frozen 2
          clear b46
          go_wp2_with fail
          refine (small_any n a ca xs b cb ds u d _ (HA.out.below B.out) (HB.out.below B.out) hs1 HX.out HD.out HU.out HDD.out).mono ?_
          rintro e W47 ⟨rfl, b47⟩
          clear Yx0 Yx1 Yx2 Lx Yy0 Yy1 Yy2 Ly Yr0 Yr1 Yr2 Lr Fr0 Fr1 Fr2
          have Rx := box_step Rx b47
          have Ry := box_step Ry b47
          have Rr := box_step Rr b47
          have B := Lib.hid (bstep B.out b47)
          have sb47 := b47.size
          have Yx0 := Rx.cell 0 rfl
          have Yx1 := Rx.cell 1 rfl
          have Yx2 := Rx.cell 2 rfl
          have Lx := Rx.lt
          have Yy0 := Ry.cell 0 rfl
          have Yy1 := Ry.cell 1 rfl
          have Yy2 := Ry.cell 2 rfl
          have Ly := Ry.lt
          have Yr0 := Rr.cell 0 rfl
          have Yr1 := Rr.cell 1 rfl
          have Yr2 := Rr.cell 2 rfl
          have Lr := Rr.lt
          have Fr0 := Rr.frozen 0
          have Fr1 := Rr.frozen 1
          have Fr2 := Rr.frozen 2
          clear b47
          go_wp2_with fail
          refine (small_any m a2 ca2 ys b2 cb2 es v f _ (HA2.out.below B.out) (HB2.out.below B.out) hs2 HY.out HE.out HV.out HFF.out).mono ?_
          rintro e W48 ⟨rfl, b48⟩
          clear Yx0 Yx1 Yx2 Lx Yy0 Yy1 Yy2 Ly Yr0 Yr1 Yr2 Lr Fr0 Fr1 Fr2
          have Rx := box_step Rx b48
          have Ry := box_step Ry b48
          have Rr := box_step Rr b48
          have B := Lib.hid (bstep B.out b48)
          have sb48 := b48.size
          have Yx0 := Rx.cell 0 rfl
          have Yx1 := Rx.cell 1 rfl
          have Yx2 := Rx.cell 2 rfl
          have Lx := Rx.lt
          have Yy0 := Ry.cell 0 rfl
          have Yy1 := Ry.cell 1 rfl
          have Yy2 := Ry.cell 2 rfl
          have Ly := Ry.lt
          have Yr0 := Rr.cell 0 rfl
          have Yr1 := Rr.cell 1 rfl
          have Yr2 := Rr.cell 2 rfl
          have Lr := Rr.lt
          have Fr0 := Rr.frozen 0
          have Fr1 := Rr.frozen 1
          have Fr2 := Rr.frozen 2
          clear b48
          go_wp2_with fail
          refine ((HRR.out ▸ ofInts_any (u * v) (d * f) _ (by omega) (by omega) (by omega) (by omega))).mono ?_
          rintro e W49 ⟨p, c, p2, c2, rfl, hO, b49⟩
          clear Yx0 Yx1 Yx2 Lx Yy0 Yy1 Yy2 Ly Yr0 Yr1 Yr2 Lr Fr0 Fr1 Fr2
          have Rx := box_step Rx b49
          have Ry := box_step Ry b49
          have Rr := box_step Rr b49
          have B := Lib.hid (bstep B.out b49)
          have sb49 := b49.size
          have O := Lib.hid hO
          clear hO
          have Yx0 := Rx.cell 0 rfl
          have Yx1 := Rx.cell 1 rfl
          have Yx2 := Rx.cell 2 rfl
          have Lx := Rx.lt
          have Yy0 := Ry.cell 0 rfl
          have Yy1 := Ry.cell 1 rfl
          have Yy2 := Ry.cell 2 rfl
          have Ly := Ry.lt
          have Yr0 := Rr.cell 0 rfl
          have Yr1 := Rr.cell 1 rfl
          have Yr2 := Rr.cell 2 rfl
          have Lr := Rr.lt
          have Fr0 := Rr.frozen 0
          have Fr1 := Rr.frozen 1
          have Fr2 := Rr.frozen 2
          clear b49
          go_wp2
          refine bodyPost_ret (v := .agg #[.bool R.neg, .slice p R.num.length c, .slice p2 R.den.length c2]) (by simp [results, Tryz.results14, go_sem, Yr0, Yr1, Yr2, Lr]) rfl ⟨p, c, p2, c2, rfl, rat_endR (by first | omega | (simp; done) | (simp; omega)) (by first | omega | (simp; done) | (simp; omega)) O.out (by first | omega | (simp; done) | (simp; omega)) B.out _ _ _⟩
        · have hs2' := Bool.eq_false_iff.2 hs2
          clear hs2
          have hlx := rok_lx h1
          have hld := rok_ld h1
          have hly := rok_lx h2
          have hle := rok_ld h2
          have HX := Lib.hid (rok_rx h1)
          have HD := Lib.hid (rok_rd h1)
          have HY := Lib.hid (rok_rx h2)
          have HE := Lib.hid (rok_rd h2)
          obtain ⟨D, hD⟩ : ∃ N : Nat, val ds * val es = N := ⟨_, rfl⟩
          have hlD : (digs D).length ≤ 48 := by rw [← hD]; exact digs_mul_len (rok_rd h1) (rok_rd h2) (by omega) (by omega)
          have hDp : 0 < D := by rw [← hD]; exact Nat.mul_pos (ratOk_pos h1) (ratOk_pos h2)
          obtain ⟨z, ez⟩ : ∃ z, toI n xs * toI m ys = z := ⟨_, rfl⟩
          have hz : (digs z.natAbs).length ≤ 48 := by rw [← ez, Int.natAbs_mul, toI_natAbs, toI_natAbs]; exact digs_mul_len (rok_rx h1) (rok_rx h2) (by omega) (by omega)
          have hm1 : (ofI z).mag.length ≤ 48 := hz
          obtain ⟨R, hR⟩ : ∃ R, ratMulP n xs ds m ys es = R := ⟨_, rfl⟩
          have hRz : mkRAz z D = R := by rw [← hR, ratMulP_yes h1 h2, hD, ← ez, mkRA_neg, toI_mul]
          have HL : Hid (∀ (W : World) (p : Option Addr) (c : Nat) (p2 : Option Addr) (c2 lo hi : Nat), Two W lo hi (.slice p (ofI z).mag.length c) (.slice p2 (digs D).length c2) (ofI z).mag (digs D) → hi ≤ W.heap.size → Calls Tryz.prog 35 #[.agg #[.bool (ofI z).neg, .slice p (ofI z).mag.length c], .slice p2 (digs D).length c2] W (RatFrom W lo R)) := by
            intro W p c p2 c2 lo hi ht hh
            have h := reduced_any (ofI z).neg p c (ofI z).mag p2 c2 (digs D) lo hi W ht hh (by show (digs _).length ≤ _; omega) (by omega) (by show digs (val (digs _)) = _; rw [val_digs]; rfl) (by rw [val_digs]) (by show _ → 0 < val (digs _); rw [val_digs]; exact ofI_neg_pos z) (by rw [val_digs]; exact hDp)
            have e : mkRA (ofI z).neg (val (ofI z).mag) (val (digs D)) = R := by
              rw [val_digs, ← hRz]
              show mkRA (decide _) (val (digs _)) D = mkRAz z D
              rw [val_digs]; rfl
            rw [e] at h
            exact h
          have E1 := Lib.hid ez
          have HDD := Lib.hid hD
          rw [hR]
          clear hR hRz ez hD h1 h2 hz
          go_enter Tryz.func14, Tryz.ntmps14
          go_wp2_with fail
          refine (areRats_any n a ca xs b cb ds m a2 ca2 ys b2 cb2 es _ (HA.out.below (bstep (ba3 _ _ _ _) (bstep (Below.refl _ _) (ba1 _ _)))) hn (HB.out.below (bstep (ba3 _ _ _ _) (bstep (Below.refl _ _) (ba1 _ _)))) hm (HA2.out.below (bstep (ba3 _ _ _ _) (bstep (Below.refl _ _) (ba1 _ _)))) hn2 (HB2.out.below (bstep (ba3 _ _ _ _) (bstep (Below.refl _ _) (ba1 _ _)))) hm2 (w.heap.size + 3) (bx4_3 (Below.refl _ _)) true HOK.out).mono ?_
          rintro e W50 ⟨rfl, b50⟩
          replace b50 := bstep (bstep (Below.refl _ _) (ba1 _ _)) b50
          have Rx := bx3_0 b50
          have Ry := bx3_1 b50
          have Rr := bx3_2 b50
          have B := Lib.hid (bstep (ba3 _ _ _ _) b50)
          have sb50 := b50.size
          try simp at sb50
          have Yx0 := Rx.cell 0 rfl
          have Yx1 := Rx.cell 1 rfl
          have Yx2 := Rx.cell 2 rfl
          have Lx := Rx.lt
          have Yy0 := Ry.cell 0 rfl
          have Yy1 := Ry.cell 1 rfl
          have Yy2 := Ry.cell 2 rfl
          have Ly := Ry.lt
          have Yr0 := Rr.cell 0 rfl
          have Yr1 := Rr.cell 1 rfl
          have Yr2 := Rr.cell 2 rfl
          have Lr := Rr.lt
          have Fr0 := Rr.frozen 0
          have Fr1 := Rr.frozen 1
          have Fr2 := Rr.frozen 2
          clear b50
          go_wp2_with fail
          refine (isSmall_any n a ca xs b cb ds _).mono ?_
          rintro e W51 ⟨rfl, b51⟩
          clear Yx0 Yx1 Yx2 Lx Yy0 Yy1 Yy2 Ly Yr0 Yr1 Yr2 Lr Fr0 Fr1 Fr2
          have Rx := box_step Rx b51
          have Ry := box_step Ry b51
          have Rr := box_step Rr b51
          have B := Lib.hid (bstep B.out b51)
          have sb51 := b51.size
          have Yx0 := Rx.cell 0 rfl
          have Yx1 := Rx.cell 1 rfl
          have Yx2 := Rx.cell 2 rfl
          have Lx := Rx.lt
          have Yy0 := Ry.cell 0 rfl
          have Yy1 := Ry.cell 1 rfl
          have Yy2 := Ry.cell 2 rfl
          have Ly := Ry.lt
          have Yr0 := Rr.cell 0 rfl
          have Yr1 := Rr.cell 1 rfl
          have Yr2 := Rr.cell 2 rfl
          have Lr := Rr.lt
          have Fr0 := Rr.frozen 0
          have Fr1 := Rr.frozen 1
          have Fr2 := Rr.frozen 2
          clear b51
          go_wp2_with fail
          refine (isSmall_any m a2 ca2 ys b2 cb2 es _).mono ?_
          rintro e W52 ⟨rfl, b52⟩
          clear Yx0 Yx1 Yx2 Lx Yy0 Yy1 Yy2 Ly Yr0 Yr1 Yr2 Lr Fr0 Fr1 Fr2
          have Rx := box_step Rx b52
          have Ry := box_step Ry b52
          have Rr := box_step Rr b52
          have B := Lib.hid (bstep B.out b52)
          have sb52 := b52.size
          have Yx0 := Rx.cell 0 rfl
          have Yx1 := Rx.cell 1 rfl
          have Yx2 := Rx.cell 2 rfl
          have Lx := Rx.lt
          have Yy0 := Ry.cell 0 rfl
          have Yy1 := Ry.cell 1 rfl
          have Yy2 := Ry.cell 2 rfl
          have Ly := Ry.lt
          have Yr0 := Rr.cell 0 rfl
          have Yr1 := Rr.cell 1 rfl
          have Yr2 := Rr.cell 2 rfl
          have Lr := Rr.lt
          have Fr0 := Rr.frozen 0
          have Fr1 := Rr.frozen 1
          have Fr2 := Rr.frozen 2
          clear b52
          go_wp2_with fail
          go_region_held3 (fun w' => w'.cell? ⟨w.heap.size, 0, none⟩ = some (.bool n) ∧ w'.cell? ⟨w.heap.size, 1, none⟩ = some (.slice a xs.length ca) ∧ w'.cell? ⟨w.heap.size, 2, none⟩ = some (.slice b ds.length cb) ∧ w'.cell? ⟨w.heap.size + 1, 0, none⟩ = some (.bool m) ∧ w'.cell? ⟨w.heap.size + 1, 1, none⟩ = some (.slice a2 ys.length ca2) ∧ w'.cell? ⟨w.heap.size + 1, 2, none⟩ = some (.slice b2 es.length cb2))
            ((first | exact ⟨Yx0, Yx1, Yx2, Yy0, Yy1, Yy2⟩ | exact ⟨cell_stepD Yx0 b53, cell_stepD Yx1 b53, cell_stepD Yx2 b53, cell_stepD Yy0 b53, cell_stepD Yy1 b53, cell_stepD Yy2 b53⟩ | exact ⟨cell_step (cell_stepD Yx0 b53) b54, cell_step (cell_stepD Yx1 b53) b54, cell_step (cell_stepD Yx2 b53) b54, cell_step (cell_stepD Yy0 b53) b54, cell_step (cell_stepD Yy1 b53) b54, cell_step (cell_stepD Yy2 b53) b54⟩ | exact ⟨cell_step (cell_step (cell_stepD Yx0 b53) b54) b55, cell_step (cell_step (cell_stepD Yx1 b53) b54) b55, cell_step (cell_step (cell_stepD Yx2 b53) b54) b55, cell_step (cell_step (cell_stepD Yy0 b53) b54) b55, cell_step (cell_step (cell_stepD Yy1 b53) b54) b55, cell_step (cell_step (cell_stepD Yy2 b53) b54) b55⟩ | exact ⟨cell_low (cell_low (cell_low (cell_step (cell_step (cell_stepD Yx0 b53) b54) b55) (by first | (simp; done) | (simp; omega) | omega)) (by first | (simp; done) | (simp; omega) | omega)) (by first | (simp; done) | (simp; omega) | omega), cell_low (cell_low (cell_low (cell_step (cell_step (cell_stepD Yx1 b53) b54) b55) (by first | (simp; done) | (simp; omega) | omega)) (by first | (simp; done) | (simp; omega) | omega)) (by first | (simp; done) | (simp; omega) | omega), cell_low (cell_low (cell_low (cell_step (cell_step (cell_stepD Yx2 b53) b54) b55) (by first | (simp; done) | (simp; omega) | omega)) (by first | (simp; done) | (simp; omega) | omega)) (by first | (simp; done) | (simp; omega) | omega), cell_low (cell_low (cell_low (cell_step (cell_step (cell_stepD Yy0 b53) b54) b55) (by first | (simp; done) | (simp; omega) | omega)) (by first | (simp; done) | (simp; omega) | omega)) (by first | (simp; done) | (simp; omega) | omega), cell_low (cell_low (cell_low (cell_step (cell_step (cell_stepD Yy1 b53) b54) b55) (by first | (simp; done) | (simp; omega) | omega)) (by first | (simp; done) | (simp; omega) | omega)) (by first | (simp; done) | (simp; omega) | omega), cell_low (cell_low (cell_low (cell_step (cell_step (cell_stepD Yy2 b53) b54) b55) (by first | (simp; done) | (simp; omega) | omega)) (by first | (simp; done) | (simp; omega) | omega)) (by first | (simp; done) | (simp; omega) | omega)⟩))
            (first | (go_at_call 36; refine (bigMul_of n a ca xs m a2 ca2 ys z _ (HA.out.below (B.out.drew)) (by omega) (HA2.out.below (B.out.drew)) (by omega) HX.out HY.out E1.out).mono ?_; rintro e W53 ⟨p3, c3, rfl, hO3, b53⟩; have s53 := b53.size; (try simp at s53)) | (go_at_call 37; refine (natMul_out b cb ds b2 cb2 es D _ (HB.out.below (bstepD B.out b53)) (HB2.out.below (bstepD B.out b53)) (by omega) (by omega) HD.out HE.out HDD.out).mono ?_; rintro e W54 ⟨p5, c5, rfl, hO5, b54⟩; have s54 := b54.size; (try simp at s54)) | (go_at_call 35; refine (HL.out _ p3 c3 p5 c5 _ _ (Two.of (hO3.below b54) hO5 (Nat.le_refl _) (by first | omega | (simp; done) | (simp; omega)) (Nat.le_refl _) (by first | omega | (simp; done) | (simp; omega)) (by first | omega | (simp; done) | (simp; omega))) (Nat.le_refl _)).mono ?_; rintro e W55 ⟨p6, c6, p7, c7, rfl, hO, b55⟩; have s55 := b55.size; (try simp at s55); have Rr := (box_step (box_step (box_step (box_drew Rr) b53) b54) b55); have Yr0 := Rr.cell 0 rfl; have Fr0 := Rr.frozen 0; have Yr1 := Rr.cell 1 rfl; have Fr1 := Rr.frozen 1; have Yr2 := Rr.cell 2 rfl; have Fr2 := Rr.frozen 2; have Lr := Rr.lt))
          have sb53 := b53.size
          try simp at sb53
          have sb54 := b54.size
          have sb55 := b55.size
          have O3 := Lib.hid (((hO3.below b54).below b55))
          clear hO3
          have O5 := Lib.hid ((hO5.below b55))
          clear hO5
          have O := Lib.hid (hO)
          clear hO
          have B := Lib.hid (bstep (bstep (bstepD B.out b53) b54) b55)
          clear b53 b54 b55
          go_wp2
          refine bodyPost_ret (v := .agg #[.bool R.neg, .slice p6 R.num.length c6, .slice p7 R.den.length c7]) (by simp [results, Tryz.results14, go_sem, Yr0, Yr1, Yr2, Lr]) rfl ⟨p6, c6, p7, c7, rfl, rat_endR (by first | omega | (simp; done) | (simp; omega)) (by first | omega | (simp; done) | (simp; omega)) O.out (by first | omega | (simp; done) | (simp; omega)) B.out _ _ _⟩
      · have hs1' := Bool.eq_false_iff.2 hs1
        clear hs1
        have hlx := rok_lx h1
        have hld := rok_ld h1
        have hly := rok_lx h2
        have hle := rok_ld h2
        have HX := Lib.hid (rok_rx h1)
        have HD := Lib.hid (rok_rd h1)
        have HY := Lib.hid (rok_rx h2)
        have HE := Lib.hid (rok_rd h2)
        obtain ⟨D, hD⟩ : ∃ N : Nat, val ds * val es = N := ⟨_, rfl⟩
        have hlD : (digs D).length ≤ 48 := by rw [← hD]; exact digs_mul_len (rok_rd h1) (rok_rd h2) (by omega) (by omega)
        have hDp : 0 < D := by rw [← hD]; exact Nat.mul_pos (ratOk_pos h1) (ratOk_pos h2)
        obtain ⟨z, ez⟩ : ∃ z, toI n xs * toI m ys = z := ⟨_, rfl⟩
        have hz : (digs z.natAbs).length ≤ 48 := by rw [← ez, Int.natAbs_mul, toI_natAbs, toI_natAbs]; exact digs_mul_len (rok_rx h1) (rok_rx h2) (by omega) (by omega)
        have hm1 : (ofI z).mag.length ≤ 48 := hz
        obtain ⟨R, hR⟩ : ∃ R, ratMulP n xs ds m ys es = R := ⟨_, rfl⟩
        have hRz : mkRAz z D = R := by rw [← hR, ratMulP_yes h1 h2, hD, ← ez, mkRA_neg, toI_mul]
        have HL : Hid (∀ (W : World) (p : Option Addr) (c : Nat) (p2 : Option Addr) (c2 lo hi : Nat), Two W lo hi (.slice p (ofI z).mag.length c) (.slice p2 (digs D).length c2) (ofI z).mag (digs D) → hi ≤ W.heap.size → Calls Tryz.prog 35 #[.agg #[.bool (ofI z).neg, .slice p (ofI z).mag.length c], .slice p2 (digs D).length c2] W (RatFrom W lo R)) := by
          intro W p c p2 c2 lo hi ht hh
          have h := reduced_any (ofI z).neg p c (ofI z).mag p2 c2 (digs D) lo hi W ht hh (by show (digs _).length ≤ _; omega) (by omega) (by show digs (val (digs _)) = _; rw [val_digs]; rfl) (by rw [val_digs]) (by show _ → 0 < val (digs _); rw [val_digs]; exact ofI_neg_pos z) (by rw [val_digs]; exact hDp)
          have e : mkRA (ofI z).neg (val (ofI z).mag) (val (digs D)) = R := by
            rw [val_digs, ← hRz]
            show mkRA (decide _) (val (digs _)) D = mkRAz z D
            rw [val_digs]; rfl
          rw [e] at h
          exact h
        have E1 := Lib.hid ez
        have HDD := Lib.hid hD
        rw [hR]
        clear hR hRz ez hD h1 h2 hz
        go_enter Tryz.func14, Tryz.ntmps14
        go_wp2_with fail
        refine (areRats_any n a ca xs b cb ds m a2 ca2 ys b2 cb2 es _ (HA.out.below (bstep (ba3 _ _ _ _) (bstep (Below.refl _ _) (ba1 _ _)))) hn (HB.out.below (bstep (ba3 _ _ _ _) (bstep (Below.refl _ _) (ba1 _ _)))) hm (HA2.out.below (bstep (ba3 _ _ _ _) (bstep (Below.refl _ _) (ba1 _ _)))) hn2 (HB2.out.below (bstep (ba3 _ _ _ _) (bstep (Below.refl _ _) (ba1 _ _)))) hm2 (w.heap.size + 3) (bx4_3 (Below.refl _ _)) true HOK.out).mono ?_
        rintro e W56 ⟨rfl, b56⟩
        replace b56 := bstep (bstep (Below.refl _ _) (ba1 _ _)) b56
        have Rx := bx3_0 b56
        have Ry := bx3_1 b56
        have Rr := bx3_2 b56
        have B := Lib.hid (bstep (ba3 _ _ _ _) b56)
        have sb56 := b56.size
        try simp at sb56
        have Yx0 := Rx.cell 0 rfl
        have Yx1 := Rx.cell 1 rfl
        have Yx2 := Rx.cell 2 rfl
        have Lx := Rx.lt
        have Yy0 := Ry.cell 0 rfl
        have Yy1 := Ry.cell 1 rfl
        have Yy2 := Ry.cell 2 rfl
        have Ly := Ry.lt
        have Yr0 := Rr.cell 0 rfl
        have Yr1 := Rr.cell 1 rfl
        have Yr2 := Rr.cell 2 rfl
        have Lr := Rr.lt
        have Fr0 := Rr.frozen 0
        have Fr1 := Rr.frozen 1
        have Fr2 := Rr.frozen 2
        clear b56
        go_wp2_with fail
        refine (isSmall_any n a ca xs b cb ds _).mono ?_
        rintro e W57 ⟨rfl, b57⟩
        clear Yx0 Yx1 Yx2 Lx Yy0 Yy1 Yy2 Ly Yr0 Yr1 Yr2 Lr Fr0 Fr1 Fr2
        have Rx := box_step Rx b57
        have Ry := box_step Ry b57
        have Rr := box_step Rr b57
        have B := Lib.hid (bstep B.out b57)
        have sb57 := b57.size
        have Yx0 := Rx.cell 0 rfl
        have Yx1 := Rx.cell 1 rfl
        have Yx2 := Rx.cell 2 rfl
        have Lx := Rx.lt
        have Yy0 := Ry.cell 0 rfl
        have Yy1 := Ry.cell 1 rfl
        have Yy2 := Ry.cell 2 rfl
        have Ly := Ry.lt
        have Yr0 := Rr.cell 0 rfl
        have Yr1 := Rr.cell 1 rfl
        have Yr2 := Rr.cell 2 rfl
        have Lr := Rr.lt
        have Fr0 := Rr.frozen 0
        have Fr1 := Rr.frozen 1
        have Fr2 := Rr.frozen 2
        clear b57
        go_wp2_with fail
        go_region_held3 (fun w' => w'.cell? ⟨w.heap.size, 0, none⟩ = some (.bool n) ∧ w'.cell? ⟨w.heap.size, 1, none⟩ = some (.slice a xs.length ca) ∧ w'.cell? ⟨w.heap.size, 2, none⟩ = some (.slice b ds.length cb) ∧ w'.cell? ⟨w.heap.size + 1, 0, none⟩ = some (.bool m) ∧ w'.cell? ⟨w.heap.size + 1, 1, none⟩ = some (.slice a2 ys.length ca2) ∧ w'.cell? ⟨w.heap.size + 1, 2, none⟩ = some (.slice b2 es.length cb2))
          ((first | exact ⟨Yx0, Yx1, Yx2, Yy0, Yy1, Yy2⟩ | exact ⟨cell_stepD Yx0 b58, cell_stepD Yx1 b58, cell_stepD Yx2 b58, cell_stepD Yy0 b58, cell_stepD Yy1 b58, cell_stepD Yy2 b58⟩ | exact ⟨cell_step (cell_stepD Yx0 b58) b59, cell_step (cell_stepD Yx1 b58) b59, cell_step (cell_stepD Yx2 b58) b59, cell_step (cell_stepD Yy0 b58) b59, cell_step (cell_stepD Yy1 b58) b59, cell_step (cell_stepD Yy2 b58) b59⟩ | exact ⟨cell_step (cell_step (cell_stepD Yx0 b58) b59) b60, cell_step (cell_step (cell_stepD Yx1 b58) b59) b60, cell_step (cell_step (cell_stepD Yx2 b58) b59) b60, cell_step (cell_step (cell_stepD Yy0 b58) b59) b60, cell_step (cell_step (cell_stepD Yy1 b58) b59) b60, cell_step (cell_step (cell_stepD Yy2 b58) b59) b60⟩ | exact ⟨cell_low (cell_low (cell_low (cell_step (cell_step (cell_stepD Yx0 b58) b59) b60) (by first | (simp; done) | (simp; omega) | omega)) (by first | (simp; done) | (simp; omega) | omega)) (by first | (simp; done) | (simp; omega) | omega), cell_low (cell_low (cell_low (cell_step (cell_step (cell_stepD Yx1 b58) b59) b60) (by first | (simp; done) | (simp; omega) | omega)) (by first | (simp; done) | (simp; omega) | omega)) (by first | (simp; done) | (simp; omega) | omega), cell_low (cell_low (cell_low (cell_step (cell_step (cell_stepD Yx2 b58) b59) b60) (by first | (simp; done) | (simp; omega) | omega)) (by first | (simp; done) | (simp; omega) | omega)) (by first | (simp; done) | (simp; omega) | omega), cell_low (cell_low (cell_low (cell_step (cell_step (cell_stepD Yy0 b58) b59) b60) (by first | (simp; done) | (simp; omega) | omega)) (by first | (simp; done) | (simp; omega) | omega)) (by first | (simp; done) | (simp; omega) | omega), cell_low (cell_low (cell_low (cell_step (cell_step (cell_stepD Yy1 b58) b59) b60) (by first | (simp; done) | (simp; omega) | omega)) (by first | (simp; done) | (simp; omega) | omega)) (by first | (simp; done) | (simp; omega) | omega), cell_low (cell_low (cell_low (cell_step (cell_step (cell_stepD Yy2 b58) b59) b60) (by first | (simp; done) | (simp; omega) | omega)) (by first | (simp; done) | (simp; omega) | omega)) (by first | (simp; done) | (simp; omega) | omega)⟩))
          (first | (go_at_call 36; refine (bigMul_of n a ca xs m a2 ca2 ys z _ (HA.out.below (B.out.drew)) (by omega) (HA2.out.below (B.out.drew)) (by omega) HX.out HY.out E1.out).mono ?_; rintro e W58 ⟨p3, c3, rfl, hO3, b58⟩; have s58 := b58.size; (try simp at s58)) | (go_at_call 37; refine (natMul_out b cb ds b2 cb2 es D _ (HB.out.below (bstepD B.out b58)) (HB2.out.below (bstepD B.out b58)) (by omega) (by omega) HD.out HE.out HDD.out).mono ?_; rintro e W59 ⟨p5, c5, rfl, hO5, b59⟩; have s59 := b59.size; (try simp at s59)) | (go_at_call 35; refine (HL.out _ p3 c3 p5 c5 _ _ (Two.of (hO3.below b59) hO5 (Nat.le_refl _) (by first | omega | (simp; done) | (simp; omega)) (Nat.le_refl _) (by first | omega | (simp; done) | (simp; omega)) (by first | omega | (simp; done) | (simp; omega))) (Nat.le_refl _)).mono ?_; rintro e W60 ⟨p6, c6, p7, c7, rfl, hO, b60⟩; have s60 := b60.size; (try simp at s60); have Rr := (box_step (box_step (box_step (box_drew Rr) b58) b59) b60); have Yr0 := Rr.cell 0 rfl; have Fr0 := Rr.frozen 0; have Yr1 := Rr.cell 1 rfl; have Fr1 := Rr.frozen 1; have Yr2 := Rr.cell 2 rfl; have Fr2 := Rr.frozen 2; have Lr := Rr.lt))
        have sb58 := b58.size
        try simp at sb58
        have sb59 := b59.size
        have sb60 := b60.size
        have O3 := Lib.hid (((hO3.below b59).below b60))
        clear hO3
        have O5 := Lib.hid ((hO5.below b60))
        clear hO5
        have O := Lib.hid (hO)
        clear hO
        have B := Lib.hid (bstep (bstep (bstepD B.out b58) b59) b60)
        clear b58 b59 b60
        go_wp2
        refine bodyPost_ret (v := .agg #[.bool R.neg, .slice p6 R.num.length c6, .slice p7 R.den.length c7]) (by simp [results, Tryz.results14, go_sem, Yr0, Yr1, Yr2, Lr]) rfl ⟨p6, c6, p7, c7, rfl, rat_endR (by first | omega | (simp; done) | (simp; omega)) (by first | omega | (simp; done) | (simp; omega)) O.out (by first | omega | (simp; done) | (simp; omega)) B.out _ _ _⟩
    · have h2' := Bool.eq_false_iff.2 h2
      have HOK : Hid ((ratOkB n xs ds && ratOkB m ys es) = false) := by unfold Hid; rw [h2', Bool.and_false]
      rw [ratMulP_no2 h2']
      clear h1 h2 h2'
      go_enter Tryz.func14, Tryz.ntmps14
      go_wp2_with fail
      refine (areRats_any n a ca xs b cb ds m a2 ca2 ys b2 cb2 es _ (HA.out.below (bstep (ba3 _ _ _ _) (bstep (Below.refl _ _) (ba1 _ _)))) hn (HB.out.below (bstep (ba3 _ _ _ _) (bstep (Below.refl _ _) (ba1 _ _)))) hm (HA2.out.below (bstep (ba3 _ _ _ _) (bstep (Below.refl _ _) (ba1 _ _)))) hn2 (HB2.out.below (bstep (ba3 _ _ _ _) (bstep (Below.refl _ _) (ba1 _ _)))) hm2 (w.heap.size + 3) (bx4_3 (Below.refl _ _)) false HOK.out).mono ?_
      rintro e W61 ⟨rfl, b61⟩
      replace b61 := bstep (bstep (Below.refl _ _) (ba1 _ _)) b61
      have Rx := bx3_0 b61
      have Ry := bx3_1 b61
      have Rr := bx3_2 b61
      have B := Lib.hid (bstep (ba3 _ _ _ _) b61)
      have sb61 := b61.size
      try simp at sb61
      have Yx0 := Rx.cell 0 rfl
      have Yx1 := Rx.cell 1 rfl
      have Yx2 := Rx.cell 2 rfl
      have Lx := Rx.lt
      have Yy0 := Ry.cell 0 rfl
      have Yy1 := Ry.cell 1 rfl
      have Yy2 := Ry.cell 2 rfl
      have Ly := Ry.lt
      have Yr0 := Rr.cell 0 rfl
      have Yr1 := Rr.cell 1 rfl
      have Yr2 := Rr.cell 2 rfl
      have Lr := Rr.lt
      have Fr0 := Rr.frozen 0
      have Fr1 := Rr.frozen 1
      have Fr2 := Rr.frozen 2
      clear b61
      go_wp2
      refine bodyPost_ret (v := .agg #[.bool false, .slice none 0 0, .slice none 0 0]) (by simp [results, Tryz.results14, go_sem, Yr0, Yr1, Yr2, Lr]) rfl ⟨none, 0, none, 0, rfl, ratz_endR (by first | omega | (simp; done) | (simp; omega)) B.out _ _ _⟩
  · have h1' := Bool.eq_false_iff.2 h1
    have HOK : Hid ((ratOkB n xs ds && ratOkB m ys es) = false) := by unfold Hid; rw [h1']; rfl
    rw [ratMulP_no1 h1']
    clear h1 h1'
    go_enter Tryz.func14, Tryz.ntmps14
    go_wp2_with fail
    refine (areRats_any n a ca xs b cb ds m a2 ca2 ys b2 cb2 es _ (HA.out.below (bstep (ba3 _ _ _ _) (bstep (Below.refl _ _) (ba1 _ _)))) hn (HB.out.below (bstep (ba3 _ _ _ _) (bstep (Below.refl _ _) (ba1 _ _)))) hm (HA2.out.below (bstep (ba3 _ _ _ _) (bstep (Below.refl _ _) (ba1 _ _)))) hn2 (HB2.out.below (bstep (ba3 _ _ _ _) (bstep (Below.refl _ _) (ba1 _ _)))) hm2 (w.heap.size + 3) (bx4_3 (Below.refl _ _)) false HOK.out).mono ?_
    rintro e W62 ⟨rfl, b62⟩
    replace b62 := bstep (bstep (Below.refl _ _) (ba1 _ _)) b62
    have Rx := bx3_0 b62
    have Ry := bx3_1 b62
    have Rr := bx3_2 b62
    have B := Lib.hid (bstep (ba3 _ _ _ _) b62)
    have sb62 := b62.size
    try simp at sb62
    have Yx0 := Rx.cell 0 rfl
    have Yx1 := Rx.cell 1 rfl
    have Yx2 := Rx.cell 2 rfl
    have Lx := Rx.lt
    have Yy0 := Ry.cell 0 rfl
    have Yy1 := Ry.cell 1 rfl
    have Yy2 := Ry.cell 2 rfl
    have Ly := Ry.lt
    have Yr0 := Rr.cell 0 rfl
    have Yr1 := Rr.cell 1 rfl
    have Yr2 := Rr.cell 2 rfl
    have Lr := Rr.lt
    have Fr0 := Rr.frozen 0
    have Fr1 := Rr.frozen 1
    have Fr2 := Rr.frozen 2
    clear b62
    go_wp2
    refine bodyPost_ret (v := .agg #[.bool false, .slice none 0 0, .slice none 0 0]) (by simp [results, Tryz.results14, go_sem, Yr0, Yr1, Yr2, Lr]) rfl ⟨none, 0, none, 0, rfl, ratz_endR (by first | omega | (simp; done) | (simp; omega)) B.out _ _ _⟩

set_option maxHeartbeats 4000000 in
set_option maxRecDepth 100000 in
include ha hn hb hm ha2 hn2 hb2 hm2 in
theorem implRatDiv_any : Calls Tryz.prog 15 #[.agg #[.bool n, .slice a xs.length ca, .slice b ds.length cb], .agg #[.bool m, .slice a2 ys.length ca2, .slice b2 es.length cb2]] w (RatRet w (ratDivP n xs ds m ys es)) := by
  have HA := Lib.hid ha
  have HB := Lib.hid hb
  have HA2 := Lib.hid ha2
  have HB2 := Lib.hid hb2
  clear ha hb ha2 hb2
  by_cases h1 : ratOkB n xs ds = true
  · by_cases h2 : ratOkB m ys es = true
    · have HOK : Hid ((ratOkB n xs ds && ratOkB m ys es) = true) := by unfold Hid; rw [h1, h2]; rfl
      by_cases h0 : 0 < ys.length
      · have hz : ((ys.length : Int) == 0) = false := beq_eq_false_iff_ne.2 (by omega)
        obtain ⟨R, hR⟩ : ∃ R, ratDivP n xs ds m ys es = R := ⟨_, rfl⟩
        have HL : Hid (∀ W, IntsAt W a ca xs → IntsAt W b cb ds → IntsAt W a2 ca2 ys → IntsAt W b2 cb2 es → Calls Tryz.prog 14 #[.agg #[.bool n, .slice a xs.length ca, .slice b ds.length cb], .agg #[.bool m, .slice b2 es.length cb2, .slice a2 ys.length ca2]] W (RatRet W R)) := by
          intro W i1 i2 i3 i4
          rw [← hR, ratDiv_inv h1 h2 h0]
          exact implRatMul_any n a ca xs b cb ds m b2 cb2 es a2 ca2 ys W i1 hn i2 hm i4 hm2 i3 hn2
        rw [hR]
        clear hR h1 h2
        go_enter Tryz.func15, Tryz.ntmps15
        go_wp2_with fail
        refine (areRats_any n a ca xs b cb ds m a2 ca2 ys b2 cb2 es _ (HA.out.below (bstep (ba3 _ _ _ _) (bstep (Below.refl _ _) (ba1 _ _)))) hn (HB.out.below (bstep (ba3 _ _ _ _) (bstep (Below.refl _ _) (ba1 _ _)))) hm (HA2.out.below (bstep (ba3 _ _ _ _) (bstep (Below.refl _ _) (ba1 _ _)))) hn2 (HB2.out.below (bstep (ba3 _ _ _ _) (bstep (Below.refl _ _) (ba1 _ _)))) hm2 (w.heap.size + 3) (bx4_3 (Below.refl _ _)) true HOK.out).mono ?_
        rintro e W63 ⟨rfl, b63⟩
        replace b63 := bstep (bstep (Below.refl _ _) (ba1 _ _)) b63
        have Rx := bx3_0 b63
        have Ry := bx3_1 b63
        have Rr := bx3_2 b63
        have B := Lib.hid (bstep (ba3 _ _ _ _) b63)
        have sb63 := b63.size
        try simp at sb63
        have Yx0 := Rx.cell 0 rfl
        have Yx1 := Rx.cell 1 rfl
        have Yx2 := Rx.cell 2 rfl
        have Lx := Rx.lt
        have Yy0 := Ry.cell 0 rfl
        have Yy1 := Ry.cell 1 rfl
        have Yy2 := Ry.cell 2 rfl
        have Ly := Ry.lt
        have Yr0 := Rr.cell 0 rfl
        have Yr1 := Rr.cell 1 rfl
        have Yr2 := Rr.cell 2 rfl
        have Lr := Rr.lt
        have Fr0 := Rr.frozen 0
        have Fr1 := Rr.frozen 1
        have Fr2 := Rr.frozen 2
        clear b63
        go_wp2_with fail
        refine (HL.out _ (HA.out.below B.out) (HB.out.below B.out) (HA2.out.below B.out) (HB2.out.below B.out)).mono ?_
        rintro e W64 ⟨p, c, p2, c2, rfl, hO, b64⟩
        clear Yx0 Yx1 Yx2 Lx Yy0 Yy1 Yy2 Ly Yr0 Yr1 Yr2 Lr Fr0 Fr1 Fr2
        have Rx := box_step Rx b64
        have Ry := box_step Ry b64
        have Rr := box_step Rr b64
        have B := Lib.hid (bstep B.out b64)
        have sb64 := b64.size
        have O := Lib.hid hO
        clear hO
        have Yx0 := Rx.cell 0 rfl
        have Yx1 := Rx.cell 1 rfl
        have Yx2 := Rx.cell 2 rfl
        have Lx := Rx.lt
        have Yy0 := Ry.cell 0 rfl
        have Yy1 := Ry.cell 1 rfl
        have Yy2 := Ry.cell 2 rfl
        have Ly := Ry.lt
        have Yr0 := Rr.cell 0 rfl
        have Yr1 := Rr.cell 1 rfl
        have Yr2 := Rr.cell 2 rfl
        have Lr := Rr.lt
        have Fr0 := Rr.frozen 0
        have Fr1 := Rr.frozen 1
        have Fr2 := Rr.frozen 2
        clear b64
        go_wp2
        refine bodyPost_ret (v := .agg #[.bool R.neg, .slice p R.num.length c, .slice p2 R.den.length c2]) (by simp [results, Tryz.results15, go_sem, Yr0, Yr1, Yr2, Lr]) rfl ⟨p, c, p2, c2, rfl, rat_endR (by first | omega | (simp; done) | (simp; omega)) (by first | omega | (simp; done) | (simp; omega)) O.out (by first | omega | (simp; done) | (simp; omega)) B.out _ _ _⟩
      · have hz : ((ys.length : Int) == 0) = true := beq_iff_eq.2 (by omega)
        rw [ratDiv_zero (List.eq_nil_of_length_eq_zero (by omega))]
        clear h0 h1 h2
        go_enter Tryz.func15, Tryz.ntmps15
        go_wp2_with fail
        refine (areRats_any n a ca xs b cb ds m a2 ca2 ys b2 cb2 es _ (HA.out.below (bstep (ba3 _ _ _ _) (bstep (Below.refl _ _) (ba1 _ _)))) hn (HB.out.below (bstep (ba3 _ _ _ _) (bstep (Below.refl _ _) (ba1 _ _)))) hm (HA2.out.below (bstep (ba3 _ _ _ _) (bstep (Below.refl _ _) (ba1 _ _)))) hn2 (HB2.out.below (bstep (ba3 _ _ _ _) (bstep (Below.refl _ _) (ba1 _ _)))) hm2 (w.heap.size + 3) (bx4_3 (Below.refl _ _)) true HOK.out).mono ?_
        rintro e W65 ⟨rfl, b65⟩
        replace b65 := bstep (bstep (Below.refl _ _) (ba1 _ _)) b65
        have Rx := bx3_0 b65
        have Ry := bx3_1 b65
        have Rr := bx3_2 b65
        have B := Lib.hid (bstep (ba3 _ _ _ _) b65)
        have sb65 := b65.size
        try simp at sb65
        have Yx0 := Rx.cell 0 rfl
        have Yx1 := Rx.cell 1 rfl
        have Yx2 := Rx.cell 2 rfl
        have Lx := Rx.lt
        have Yy0 := Ry.cell 0 rfl
        have Yy1 := Ry.cell 1 rfl
        have Yy2 := Ry.cell 2 rfl
        have Ly := Ry.lt
        have Yr0 := Rr.cell 0 rfl
        have Yr1 := Rr.cell 1 rfl
        have Yr2 := Rr.cell 2 rfl
        have Lr := Rr.lt
        have Fr0 := Rr.frozen 0
        have Fr1 := Rr.frozen 1
        have Fr2 := Rr.frozen 2
        clear b65
        go_wp2
        refine bodyPost_ret (v := .agg #[.bool false, .slice none 0 0, .slice none 0 0]) (by simp [results, Tryz.results15, go_sem, Yr0, Yr1, Yr2, Lr]) rfl ⟨none, 0, none, 0, rfl, ratz_endR (by first | omega | (simp; done) | (simp; omega)) B.out _ _ _⟩
    · have h2' := Bool.eq_false_iff.2 h2
      have HOK : Hid ((ratOkB n xs ds && ratOkB m ys es) = false) := by unfold Hid; rw [h2', Bool.and_false]
      rw [ratDivP_no2 h2']
      clear h1 h2 h2'
      go_enter Tryz.func15, Tryz.ntmps15
      go_wp2_with fail
      refine (areRats_any n a ca xs b cb ds m a2 ca2 ys b2 cb2 es _ (HA.out.below (bstep (ba3 _ _ _ _) (bstep (Below.refl _ _) (ba1 _ _)))) hn (HB.out.below (bstep (ba3 _ _ _ _) (bstep (Below.refl _ _) (ba1 _ _)))) hm (HA2.out.below (bstep (ba3 _ _ _ _) (bstep (Below.refl _ _) (ba1 _ _)))) hn2 (HB2.out.below (bstep (ba3 _ _ _ _) (bstep (Below.refl _ _) (ba1 _ _)))) hm2 (w.heap.size + 3) (bx4_3 (Below.refl _ _)) false HOK.out).mono ?_
      rintro e W66 ⟨rfl, b66⟩
      replace b66 := bstep (bstep (Below.refl _ _) (ba1 _ _)) b66
      have Rx := bx3_0 b66
      have Ry := bx3_1 b66
      have Rr := bx3_2 b66
      have B := Lib.hid (bstep (ba3 _ _ _ _) b66)
      have sb66 := b66.size
      try simp at sb66
      have Yx0 := Rx.cell 0 rfl
      have Yx1 := Rx.cell 1 rfl
      have Yx2 := Rx.cell 2 rfl
      have Lx := Rx.lt
      have Yy0 := Ry.cell 0 rfl
      have Yy1 := Ry.cell 1 rfl
      have Yy2 := Ry.cell 2 rfl
      have Ly := Ry.lt
      have Yr0 := Rr.cell 0 rfl
      have Yr1 := Rr.cell 1 rfl
      have Yr2 := Rr.cell 2 rfl
      have Lr := Rr.lt
      have Fr0 := Rr.frozen 0
      have Fr1 := Rr.frozen 1
      have Fr2 := Rr.frozen 2
      clear b66
      go_wp2
      refine bodyPost_ret (v := .agg #[.bool false, .slice none 0 0, .slice none 0 0]) (by simp [results, Tryz.results15, go_sem, Yr0, Yr1, Yr2, Lr]) rfl ⟨none, 0, none, 0, rfl, ratz_endR (by first | omega | (simp; done) | (simp; omega)) B.out _ _ _⟩
  · have h1' := Bool.eq_false_iff.2 h1
    have HOK : Hid ((ratOkB n xs ds && ratOkB m ys es) = false) := by unfold Hid; rw [h1']; rfl
    rw [ratDivP_no1 h1']
    clear h1 h1'
    go_enter Tryz.func15, Tryz.ntmps15
    go_wp2_with fail
    refine (areRats_any n a ca xs b cb ds m a2 ca2 ys b2 cb2 es _ (HA.out.below (bstep (ba3 _ _ _ _) (bstep (Below.refl _ _) (ba1 _ _)))) hn (HB.out.below (bstep (ba3 _ _ _ _) (bstep (Below.refl _ _) (ba1 _ _)))) hm (HA2.out.below (bstep (ba3 _ _ _ _) (bstep (Below.refl _ _) (ba1 _ _)))) hn2 (HB2.out.below (bstep (ba3 _ _ _ _) (bstep (Below.refl _ _) (ba1 _ _)))) hm2 (w.heap.size + 3) (bx4_3 (Below.refl _ _)) false HOK.out).mono ?_
    rintro e W67 ⟨rfl, b67⟩
    replace b67 := bstep (bstep (Below.refl _ _) (ba1 _ _)) b67
    have Rx := bx3_0 b67
    have Ry := bx3_1 b67
    have Rr := bx3_2 b67
    have B := Lib.hid (bstep (ba3 _ _ _ _) b67)
    have sb67 := b67.size
    try simp at sb67
    have Yx0 := Rx.cell 0 rfl
    have Yx1 := Rx.cell 1 rfl
    have Yx2 := Rx.cell 2 rfl
    have Lx := Rx.lt
    have Yy0 := Ry.cell 0 rfl
    have Yy1 := Ry.cell 1 rfl
    have Yy2 := Ry.cell 2 rfl
    have Ly := Ry.lt
    have Yr0 := Rr.cell 0 rfl
    have Yr1 := Rr.cell 1 rfl
    have Yr2 := Rr.cell 2 rfl
    have Lr := Rr.lt
    have Fr0 := Rr.frozen 0
    have Fr1 := Rr.frozen 1
    have Fr2 := Rr.frozen 2
    clear b67
    go_wp2
    refine bodyPost_ret (v := .agg #[.bool false, .slice none 0 0, .slice none 0 0]) (by simp [results, Tryz.results15, go_sem, Yr0, Yr1, Yr2, Lr]) rfl ⟨none, 0, none, 0, rfl, ratz_endR (by first | omega | (simp; done) | (simp; omega)) B.out _ _ _⟩

set_option maxHeartbeats 4000000 in
set_option maxRecDepth 100000 in
include ha hn hb hm ha2 hn2 hb2 hm2 in
theorem implRatCmp_any : Calls Tryz.prog 10 #[.agg #[.bool n, .slice a xs.length ca, .slice b ds.length cb], .agg #[.bool m, .slice a2 ys.length ca2, .slice b2 es.length cb2]] w (fun e w' => e = .returned (.int .i64 (ratCmpP n xs ds m ys es)) ∧ Below w.heap.size w w') := by
  have HA := Lib.hid ha
  have HB := Lib.hid hb
  have HA2 := Lib.hid ha2
  have HB2 := Lib.hid hb2
  clear ha hb ha2 hb2
  by_cases h1 : ratOkB n xs ds = true
  · by_cases h2 : ratOkB m ys es = true
    · have HOK : Hid ((ratOkB n xs ds && ratOkB m ys es) = true) := by unfold Hid; rw [h1, h2]; rfl
      have H1 := Lib.hid h1
      have H2 := Lib.hid h2
      rw [ratCmpP_yes h1 h2]
      clear h1 h2
      go_enter Tryz.func10, Tryz.ntmps10
      go_wp2_with fail
      refine (areRats_any n a ca xs b cb ds m a2 ca2 ys b2 cb2 es _ (HA.out.below (bstep (ba2 _ _ _) (bstep (Below.refl _ _) (ba1 _ _)))) hn (HB.out.below (bstep (ba2 _ _ _) (bstep (Below.refl _ _) (ba1 _ _)))) hm (HA2.out.below (bstep (ba2 _ _ _) (bstep (Below.refl _ _) (ba1 _ _)))) hn2 (HB2.out.below (bstep (ba2 _ _ _) (bstep (Below.refl _ _) (ba1 _ _)))) hm2 (w.heap.size + 2) (bx3_2 (Below.refl _ _)) true HOK.out).mono ?_
      rintro e W68 ⟨rfl, b68⟩
      replace b68 := bstep (bstep (Below.refl _ _) (ba1 _ _)) b68
      have Rx := bx2_0 b68
      have Ry := bx2_1 b68
      have B := Lib.hid (bstep (ba2 _ _ _) b68)
      have sb68 := b68.size
      try simp at sb68
      have Yx0 := Rx.cell 0 rfl
      have Yx1 := Rx.cell 1 rfl
      have Yx2 := Rx.cell 2 rfl
      have Lx := Rx.lt
      have Yy0 := Ry.cell 0 rfl
      have Yy1 := Ry.cell 1 rfl
      have Yy2 := Ry.cell 2 rfl
      have Ly := Ry.lt
      clear b68
      go_wp2_with fail
      refine (ratCompare_any n a ca xs b cb ds m a2 ca2 ys b2 cb2 es _ (HA.out.below B.out) (HB.out.below B.out) (HA2.out.below B.out) (HB2.out.below B.out) H1.out H2.out).mono ?_
      rintro e W69 ⟨rfl, b69⟩
      clear Yx0 Yx1 Yx2 Lx Yy0 Yy1 Yy2 Ly
      have Rx := box_step Rx b69
      have Ry := box_step Ry b69
      have B := Lib.hid (bstep B.out b69)
      have sb69 := b69.size
      have Yx0 := Rx.cell 0 rfl
      have Yx1 := Rx.cell 1 rfl
      have Yx2 := Rx.cell 2 rfl
      have Lx := Rx.lt
      have Yy0 := Ry.cell 0 rfl
      have Yy1 := Ry.cell 1 rfl
      have Yy2 := Ry.cell 2 rfl
      have Ly := Ry.lt
      clear b69
      go_wp2
      go_ret
      exact ⟨rfl, B.out⟩
    · have h2' := Bool.eq_false_iff.2 h2
      have HOK : Hid ((ratOkB n xs ds && ratOkB m ys es) = false) := by unfold Hid; rw [h2', Bool.and_false]
      rw [ratCmpP_no2 h2']
      clear h1 h2 h2'
      go_enter Tryz.func10, Tryz.ntmps10
      go_wp2_with fail
      refine (areRats_any n a ca xs b cb ds m a2 ca2 ys b2 cb2 es _ (HA.out.below (bstep (ba2 _ _ _) (bstep (Below.refl _ _) (ba1 _ _)))) hn (HB.out.below (bstep (ba2 _ _ _) (bstep (Below.refl _ _) (ba1 _ _)))) hm (HA2.out.below (bstep (ba2 _ _ _) (bstep (Below.refl _ _) (ba1 _ _)))) hn2 (HB2.out.below (bstep (ba2 _ _ _) (bstep (Below.refl _ _) (ba1 _ _)))) hm2 (w.heap.size + 2) (bx3_2 (Below.refl _ _)) false HOK.out).mono ?_
      rintro e W70 ⟨rfl, b70⟩
      replace b70 := bstep (bstep (Below.refl _ _) (ba1 _ _)) b70
      have Rx := bx2_0 b70
      have Ry := bx2_1 b70
      have B := Lib.hid (bstep (ba2 _ _ _) b70)
      have sb70 := b70.size
      try simp at sb70
      have Yx0 := Rx.cell 0 rfl
      have Yx1 := Rx.cell 1 rfl
      have Yx2 := Rx.cell 2 rfl
      have Lx := Rx.lt
      have Yy0 := Ry.cell 0 rfl
      have Yy1 := Ry.cell 1 rfl
      have Yy2 := Ry.cell 2 rfl
      have Ly := Ry.lt
      clear b70
      go_wp2
      go_ret
      exact ⟨rfl, B.out⟩
  · have h1' := Bool.eq_false_iff.2 h1
    have HOK : Hid ((ratOkB n xs ds && ratOkB m ys es) = false) := by unfold Hid; rw [h1']; rfl
    rw [ratCmpP_no1 h1']
    clear h1 h1'
    go_enter Tryz.func10, Tryz.ntmps10
    go_wp2_with fail
    refine (areRats_any n a ca xs b cb ds m a2 ca2 ys b2 cb2 es _ (HA.out.below (bstep (ba2 _ _ _) (bstep (Below.refl _ _) (ba1 _ _)))) hn (HB.out.below (bstep (ba2 _ _ _) (bstep (Below.refl _ _) (ba1 _ _)))) hm (HA2.out.below (bstep (ba2 _ _ _) (bstep (Below.refl _ _) (ba1 _ _)))) hn2 (HB2.out.below (bstep (ba2 _ _ _) (bstep (Below.refl _ _) (ba1 _ _)))) hm2 (w.heap.size + 2) (bx3_2 (Below.refl _ _)) false HOK.out).mono ?_
    rintro e W71 ⟨rfl, b71⟩
    replace b71 := bstep (bstep (Below.refl _ _) (ba1 _ _)) b71
    have Rx := bx2_0 b71
    have Ry := bx2_1 b71
    have B := Lib.hid (bstep (ba2 _ _ _) b71)
    have sb71 := b71.size
    try simp at sb71
    have Yx0 := Rx.cell 0 rfl
    have Yx1 := Rx.cell 1 rfl
    have Yx2 := Rx.cell 2 rfl
    have Lx := Rx.lt
    have Yy0 := Ry.cell 0 rfl
    have Yy1 := Ry.cell 1 rfl
    have Yy2 := Ry.cell 2 rfl
    have Ly := Ry.lt
    clear b71
    go_wp2
    go_ret
    exact ⟨rfl, B.out⟩

set_option maxHeartbeats 4000000 in
set_option maxRecDepth 100000 in
include ha hn hb hm ha2 hn2 hb2 hm2 in
theorem implRatMin_any : Calls Tryz.prog 12 #[.agg #[.bool n, .slice a xs.length ca, .slice b ds.length cb], .agg #[.bool m, .slice a2 ys.length ca2, .slice b2 es.length cb2]] w (RatRet w (ratMinP n xs ds m ys es)) := by
  have HA := Lib.hid ha
  have HB := Lib.hid hb
  have HA2 := Lib.hid ha2
  have HB2 := Lib.hid hb2
  clear ha hb ha2 hb2
  by_cases h1 : ratOkB n xs ds = true
  · by_cases h2 : ratOkB m ys es = true
    · have HOK : Hid ((ratOkB n xs ds && ratOkB m ys es) = true) := by unfold Hid; rw [h1, h2]; rfl
      have H1 := Lib.hid h1
      have H2 := Lib.hid h2
      by_cases h3 : ratCmpV n xs ds m ys es ≤ 0
      · have h3' : decide (ratCmpV n xs ds m ys es ≤ 0) = true := decide_eq_true h3
        rw [ratMinP_le h1 h2 h3]
        clear h1 h2
        go_enter Tryz.func12, Tryz.ntmps12
        go_wp2_with fail
        refine (areRats_any n a ca xs b cb ds m a2 ca2 ys b2 cb2 es _ (HA.out.below (bstep (ba3 _ _ _ _) (bstep (Below.refl _ _) (ba1 _ _)))) hn (HB.out.below (bstep (ba3 _ _ _ _) (bstep (Below.refl _ _) (ba1 _ _)))) hm (HA2.out.below (bstep (ba3 _ _ _ _) (bstep (Below.refl _ _) (ba1 _ _)))) hn2 (HB2.out.below (bstep (ba3 _ _ _ _) (bstep (Below.refl _ _) (ba1 _ _)))) hm2 (w.heap.size + 3) (bx4_3 (Below.refl _ _)) true HOK.out).mono ?_
        rintro e W72 ⟨rfl, b72⟩
        replace b72 := bstep (bstep (Below.refl _ _) (ba1 _ _)) b72
        have Rx := bx3_0 b72
        have Ry := bx3_1 b72
        have Rr := bx3_2 b72
        have B := Lib.hid (bstep (ba3 _ _ _ _) b72)
        have sb72 := b72.size
        try simp at sb72
        have Yx0 := Rx.cell 0 rfl
        have Yx1 := Rx.cell 1 rfl
        have Yx2 := Rx.cell 2 rfl
        have Lx := Rx.lt
        have Yy0 := Ry.cell 0 rfl
        have Yy1 := Ry.cell 1 rfl
        have Yy2 := Ry.cell 2 rfl
        have Ly := Ry.lt
        have Yr0 := Rr.cell 0 rfl
        have Yr1 := Rr.cell 1 rfl
        have Yr2 := Rr.cell 2 rfl
        have Lr := Rr.lt
        have Fr0 := Rr.frozen 0
        have Fr1 := Rr.frozen 1
        have Fr2 := Rr.frozen 2
        clear b72
        go_wp2_with fail
        refine (ratCompare_any n a ca xs b cb ds m a2 ca2 ys b2 cb2 es _ (HA.out.below B.out) (HB.out.below B.out) (HA2.out.below B.out) (HB2.out.below B.out) H1.out H2.out).mono ?_
        rintro e W73 ⟨rfl, b73⟩
        clear Yx0 Yx1 Yx2 Lx Yy0 Yy1 Yy2 Ly Yr0 Yr1 Yr2 Lr Fr0 Fr1 Fr2
        have Rx := box_step Rx b73
        have Ry := box_step Ry b73
        have Rr := box_step Rr b73
        have B := Lib.hid (bstep B.out b73)
        have sb73 := b73.size
        have Yx0 := Rx.cell 0 rfl
        have Yx1 := Rx.cell 1 rfl
        have Yx2 := Rx.cell 2 rfl
        have Lx := Rx.lt
        have Yy0 := Ry.cell 0 rfl
        have Yy1 := Ry.cell 1 rfl
        have Yy2 := Ry.cell 2 rfl
        have Ly := Ry.lt
        have Yr0 := Rr.cell 0 rfl
        have Yr1 := Rr.cell 1 rfl
        have Yr2 := Rr.cell 2 rfl
        have Lr := Rr.lt
        have Fr0 := Rr.frozen 0
        have Fr1 := Rr.frozen 1
        have Fr2 := Rr.frozen 2
        clear b73
        go_wp2_with fail
        refine (copyRat_any n a ca xs b cb ds _ (HA.out.below B.out) hn (HB.out.below B.out) hm).mono ?_
        rintro e W74 ⟨p, c, p2, c2, rfl, hO, b74⟩
        clear Yx0 Yx1 Yx2 Lx Yy0 Yy1 Yy2 Ly Yr0 Yr1 Yr2 Lr Fr0 Fr1 Fr2
        have Rx := box_step Rx b74
        have Ry := box_step Ry b74
        have Rr := box_step Rr b74
        have B := Lib.hid (bstep B.out b74)
        have sb74 := b74.size
        have O := Lib.hid hO
        clear hO
        have Yx0 := Rx.cell 0 rfl
        have Yx1 := Rx.cell 1 rfl
        have Yx2 := Rx.cell 2 rfl
        have Lx := Rx.lt
        have Yy0 := Ry.cell 0 rfl
        have Yy1 := Ry.cell 1 rfl
        have Yy2 := Ry.cell 2 rfl
        have Ly := Ry.lt
        have Yr0 := Rr.cell 0 rfl
        have Yr1 := Rr.cell 1 rfl
        have Yr2 := Rr.cell 2 rfl
        have Lr := Rr.lt
        have Fr0 := Rr.frozen 0
        have Fr1 := Rr.frozen 1
        have Fr2 := Rr.frozen 2
        clear b74
        go_wp2
        refine bodyPost_ret (v := .agg #[.bool n, .slice p xs.length c, .slice p2 ds.length c2]) (by simp [results, Tryz.results12, go_sem, Yr0, Yr1, Yr2, Lr]) rfl ⟨p, c, p2, c2, rfl, rat_endR (by first | omega | (simp; done) | (simp; omega)) (by first | omega | (simp; done) | (simp; omega)) O.out (by first | omega | (simp; done) | (simp; omega)) B.out _ _ _⟩
      · have h3' : decide (ratCmpV n xs ds m ys es ≤ 0) = false := decide_eq_false h3
        rw [ratMinP_gt h1 h2 h3]
        clear h1 h2
        go_enter Tryz.func12, Tryz.ntmps12
        go_wp2_with fail
        refine (areRats_any n a ca xs b cb ds m a2 ca2 ys b2 cb2 es _ (HA.out.below (bstep (ba3 _ _ _ _) (bstep (Below.refl _ _) (ba1 _ _)))) hn (HB.out.below (bstep (ba3 _ _ _ _) (bstep (Below.refl _ _) (ba1 _ _)))) hm (HA2.out.below (bstep (ba3 _ _ _ _) (bstep (Below.refl _ _) (ba1 _ _)))) hn2 (HB2.out.below (bstep (ba3 _ _ _ _) (bstep (Below.refl _ _) (ba1 _ _)))) hm2 (w.heap.size + 3) (bx4_3 (Below.refl _ _)) true HOK.out).mono ?_
        rintro e W75 ⟨rfl, b75⟩
        replace b75 := bstep (bstep (Below.refl _ _) (ba1 _ _)) b75
        have Rx := bx3_0 b75
        have Ry := bx3_1 b75
        have Rr := bx3_2 b75
        have B := Lib.hid (bstep (ba3 _ _ _ _) b75)
        have sb75 := b75.size
        try simp at sb75
        have Yx0 := Rx.cell 0 rfl
        have Yx1 := Rx.cell 1 rfl
        have Yx2 := Rx.cell 2 rfl
        have Lx := Rx.lt
        have Yy0 := Ry.cell 0 rfl
        have Yy1 := Ry.cell 1 rfl
        have Yy2 := Ry.cell 2 rfl
        have Ly := Ry.lt
        have Yr0 := Rr.cell 0 rfl
        have Yr1 := Rr.cell 1 rfl
        have Yr2 := Rr.cell 2 rfl
        have Lr := Rr.lt
        have Fr0 := Rr.frozen 0
        have Fr1 := Rr.frozen 1
        have Fr2 := Rr.frozen 2
        clear b75
        go_wp2_with fail
        refine (ratCompare_any n a ca xs b cb ds m a2 ca2 ys b2 cb2 es _ (HA.out.below B.out) (HB.out.below B.out) (HA2.out.below B.out) (HB2.out.below B.out) H1.out H2.out).mono ?_
        rintro e W76 ⟨rfl, b76⟩
        clear Yx0 Yx1 Yx2 Lx Yy0 Yy1 Yy2 Ly Yr0 Yr1 Yr2 Lr Fr0 Fr1 Fr2
        have Rx := box_step Rx b76
        have Ry := box_step Ry b76
        have Rr := box_step Rr b76
        have B := Lib.hid (bstep B.out b76)
        have sb76 := b76.size
        have Yx0 := Rx.cell 0 rfl
        have Yx1 := Rx.cell 1 rfl
        have Yx2 := Rx.cell 2 rfl
        have Lx := Rx.lt
        have Yy0 := Ry.cell 0 rfl
        have Yy1 := Ry.cell 1 rfl
        have Yy2 := Ry.cell 2 rfl
        have Ly := Ry.lt
        have Yr0 := Rr.cell 0 rfl
        have Yr1 := Rr.cell 1 rfl
        have Yr2 := Rr.cell 2 rfl
        have Lr := Rr.lt
        have Fr0 := Rr.frozen 0
        have Fr1 := Rr.frozen 1
        have Fr2 := Rr.frozen 2
        clear b76
        go_wp2_with fail
        refine (copyRat_any m a2 ca2 ys b2 cb2 es _ (HA2.out.below B.out) hn2 (HB2.out.below B.out) hm2).mono ?_
        rintro e W77 ⟨p, c, p2, c2, rfl, hO, b77⟩
        clear Yx0 Yx1 Yx2 Lx Yy0 Yy1 Yy2 Ly Yr0 Yr1 Yr2 Lr Fr0 Fr1 Fr2
        have Rx := box_step Rx b77
        have Ry := box_step Ry b77
        have Rr := box_step Rr b77
        have B := Lib.hid (bstep B.out b77)
        have sb77 := b77.size
        have O := Lib.hid hO
        clear hO
        have Yx0 := Rx.cell 0 rfl
        have Yx1 := Rx.cell 1 rfl
        have Yx2 := Rx.cell 2 rfl
        have Lx := Rx.lt
        have Yy0 := Ry.cell 0 rfl
        have Yy1 := Ry.cell 1 rfl
        have Yy2 := Ry.cell 2 rfl
        have Ly := Ry.lt
        have Yr0 := Rr.cell 0 rfl
        have Yr1 := Rr.cell 1 rfl
        have Yr2 := Rr.cell 2 rfl
        have Lr := Rr.lt
        have Fr0 := Rr.frozen 0
        have Fr1 := Rr.frozen 1
        have Fr2 := Rr.frozen 2
        clear b77
        go_wp2
        refine bodyPost_ret (v := .agg #[.bool m, .slice p ys.length c, .slice p2 es.length c2]) (by simp [results, Tryz.results12, go_sem, Yr0, Yr1, Yr2, Lr]) rfl ⟨p, c, p2, c2, rfl, rat_endR (by first | omega | (simp; done) | (simp; omega)) (by first | omega | (simp; done) | (simp; omega)) O.out (by first | omega | (simp; done) | (simp; omega)) B.out _ _ _⟩
    · have h2' := Bool.eq_false_iff.2 h2
      have HOK : Hid ((ratOkB n xs ds && ratOkB m ys es) = false) := by unfold Hid; rw [h2', Bool.and_false]
      rw [ratMinP_no2 h2']
      clear h1 h2 h2'
      go_enter Tryz.func12, Tryz.ntmps12
      go_wp2_with fail
      refine (areRats_any n a ca xs b cb ds m a2 ca2 ys b2 cb2 es _ (HA.out.below (bstep (ba3 _ _ _ _) (bstep (Below.refl _ _) (ba1 _ _)))) hn (HB.out.below (bstep (ba3 _ _ _ _) (bstep (Below.refl _ _) (ba1 _ _)))) hm (HA2.out.below (bstep (ba3 _ _ _ _) (bstep (Below.refl _ _) (ba1 _ _)))) hn2 (HB2.out.below (bstep (ba3 _ _ _ _) (bstep (Below.refl _ _) (ba1 _ _)))) hm2 (w.heap.size + 3) (bx4_3 (Below.refl _ _)) false HOK.out).mono ?_
      rintro e W78 ⟨rfl, b78⟩
      replace b78 := bstep (bstep (Below.refl _ _) (ba1 _ _)) b78
      have Rx := bx3_0 b78
      have Ry := bx3_1 b78
      have Rr := bx3_2 b78
      have B := Lib.hid (bstep (ba3 _ _ _ _) b78)
      have sb78 := b78.size
      try simp at sb78
      have Yx0 := Rx.cell 0 rfl
      have Yx1 := Rx.cell 1 rfl
      have Yx2 := Rx.cell 2 rfl
      have Lx := Rx.lt
      have Yy0 := Ry.cell 0 rfl
      have Yy1 := Ry.cell 1 rfl
      have Yy2 := Ry.cell 2 rfl
      have Ly := Ry.lt
      have Yr0 := Rr.cell 0 rfl
      have Yr1 := Rr.cell 1 rfl
      have Yr2 := Rr.cell 2 rfl
      have Lr := Rr.lt
      have Fr0 := Rr.frozen 0
      have Fr1 := Rr.frozen 1
      have Fr2 := Rr.frozen 2
      clear b78
      go_wp2
      refine bodyPost_ret (v := .agg #[.bool false, .slice none 0 0, .slice none 0 0]) (by simp [results, Tryz.results12, go_sem, Yr0, Yr1, Yr2, Lr]) rfl ⟨none, 0, none, 0, rfl, ratz_endR (by first | omega | (simp; done) | (simp; omega)) B.out _ _ _⟩
  · have h1' := Bool.eq_false_iff.2 h1
    have HOK : Hid ((ratOkB n xs ds && ratOkB m ys es) = false) := by unfold Hid; rw [h1']; rfl
    rw [ratMinP_no1 h1']
    clear h1 h1'
    go_enter Tryz.func12, Tryz.ntmps12
    go_wp2_with fail
    refine (areRats_any n a ca xs b cb ds m a2 ca2 ys b2 cb2 es _ (HA.out.below (bstep (ba3 _ _ _ _) (bstep (Below.refl _ _) (ba1 _ _)))) hn (HB.out.below (bstep (ba3 _ _ _ _) (bstep (Below.refl _ _) (ba1 _ _)))) hm (HA2.out.below (bstep (ba3 _ _ _ _) (bstep (Below.refl _ _) (ba1 _ _)))) hn2 (HB2.out.below (bstep (ba3 _ _ _ _) (bstep (Below.refl _ _) (ba1 _ _)))) hm2 (w.heap.size + 3) (bx4_3 (Below.refl _ _)) false HOK.out).mono ?_
    rintro e W79 ⟨rfl, b79⟩
    replace b79 := bstep (bstep (Below.refl _ _) (ba1 _ _)) b79
    have Rx := bx3_0 b79
    have Ry := bx3_1 b79
    have Rr := bx3_2 b79
    have B := Lib.hid (bstep (ba3 _ _ _ _) b79)
    have sb79 := b79.size
    try simp at sb79
    have Yx0 := Rx.cell 0 rfl
    have Yx1 := Rx.cell 1 rfl
    have Yx2 := Rx.cell 2 rfl
    have Lx := Rx.lt
    have Yy0 := Ry.cell 0 rfl
    have Yy1 := Ry.cell 1 rfl
    have Yy2 := Ry.cell 2 rfl
    have Ly := Ry.lt
    have Yr0 := Rr.cell 0 rfl
    have Yr1 := Rr.cell 1 rfl
    have Yr2 := Rr.cell 2 rfl
    have Lr := Rr.lt
    have Fr0 := Rr.frozen 0
    have Fr1 := Rr.frozen 1
    have Fr2 := Rr.frozen 2
    clear b79
    go_wp2
    refine bodyPost_ret (v := .agg #[.bool false, .slice none 0 0, .slice none 0 0]) (by simp [results, Tryz.results12, go_sem, Yr0, Yr1, Yr2, Lr]) rfl ⟨none, 0, none, 0, rfl, ratz_endR (by first | omega | (simp; done) | (simp; omega)) B.out _ _ _⟩

set_option maxHeartbeats 4000000 in
set_option maxRecDepth 100000 in
include ha hn hb hm ha2 hn2 hb2 hm2 in
theorem implRatMax_any : Calls Tryz.prog 13 #[.agg #[.bool n, .slice a xs.length ca, .slice b ds.length cb], .agg #[.bool m, .slice a2 ys.length ca2, .slice b2 es.length cb2]] w (RatRet w (ratMaxP n xs ds m ys es)) := by
  have HA := Lib.hid ha
  have HB := Lib.hid hb
  have HA2 := Lib.hid ha2
  have HB2 := Lib.hid hb2
  clear ha hb ha2 hb2
  by_cases h1 : ratOkB n xs ds = true
  · by_cases h2 : ratOkB m ys es = true
    · have HOK : Hid ((ratOkB n xs ds && ratOkB m ys es) = true) := by unfold Hid; rw [h1, h2]; rfl
      have H1 := Lib.hid h1
      have H2 := Lib.hid h2
      by_cases h3 : 0 ≤ ratCmpV n xs ds m ys es
      · have h3' : decide (0 ≤ ratCmpV n xs ds m ys es) = true := decide_eq_true h3
        rw [ratMaxP_le h1 h2 h3]
        clear h1 h2
        go_enter Tryz.func13, Tryz.ntmps13
        go_wp2_with fail
        refine (areRats_any n a ca xs b cb ds m a2 ca2 ys b2 cb2 es _ (HA.out.below (bstep (ba3 _ _ _ _) (bstep (Below.refl _ _) (ba1 _ _)))) hn (HB.out.below (bstep (ba3 _ _ _ _) (bstep (Below.refl _ _) (ba1 _ _)))) hm (HA2.out.below (bstep (ba3 _ _ _ _) (bstep (Below.refl _ _) (ba1 _ _)))) hn2 (HB2.out.below (bstep (ba3 _ _ _ _) (bstep (Below.refl _ _) (ba1 _ _)))) hm2 (w.heap.size + 3) (bx4_3 (Below.refl _ _)) true HOK.out).mono ?_
        rintro e W80 ⟨rfl, b80⟩
        replace b80 := bstep (bstep (Below.refl _ _) (ba1 _ _)) b80
        have Rx := bx3_0 b80
        have Ry := bx3_1 b80
        have Rr := bx3_2 b80
        have B := Lib.hid (bstep (ba3 _ _ _ _) b80)
        have sb80 := b80.size
        try simp at sb80
        have Yx0 := Rx.cell 0 rfl
        have Yx1 := Rx.cell 1 rfl
        have Yx2 := Rx.cell 2 rfl
        have Lx := Rx.lt
        have Yy0 := Ry.cell 0 rfl
        have Yy1 := Ry.cell 1 rfl
        have Yy2 := Ry.cell 2 rfl
        have Ly := Ry.lt
        have Yr0 := Rr.cell 0 rfl
        have Yr1 := Rr.cell 1 rfl
        have Yr2 := Rr.cell 2 rfl
        have Lr := Rr.lt
        have Fr0 := Rr.frozen 0
        have Fr1 := Rr.frozen 1
        have Fr2 := Rr.frozen 2
        clear b80
        go_wp2_with fail
        refine (ratCompare_any n a ca xs b cb ds m a2 ca2 ys b2 cb2 es _ (HA.out.below B.out) (HB.out.below B.out) (HA2.out.below B.out) (HB2.out.below B.out) H1.out H2.out).mono ?_
        rintro e W81 ⟨rfl, b81⟩
        clear Yx0 Yx1 Yx2 Lx Yy0 Yy1 Yy2 Ly Yr0 Yr1 Yr2 Lr Fr0 Fr1 Fr2
        have Rx := box_step Rx b81
        have Ry := box_step Ry b81
        have Rr := box_step Rr b81
        have B := Lib.hid (bstep B.out b81)
        have sb81 := b81.size
        have Yx0 := Rx.cell 0 rfl
        have Yx1 := Rx.cell 1 rfl
        have Yx2 := Rx.cell 2 rfl
        have Lx := Rx.lt
        have Yy0 := Ry.cell 0 rfl
        have Yy1 := Ry.cell 1 rfl
        have Yy2 := Ry.cell 2 rfl
        have Ly := Ry.lt
        have Yr0 := Rr.cell 0 rfl
        have Yr1 := Rr.cell 1 rfl
        have Yr2 := Rr.cell 2 rfl
        have Lr := Rr.lt
        have Fr0 := Rr.frozen 0
        have Fr1 := Rr.frozen 1
        have Fr2 := Rr.frozen 2
        clear b81
        go_wp2_with fail
        refine (copyRat_any n a ca xs b cb ds _ (HA.out.below B.out) hn (HB.out.below B.out) hm).mono ?_
        rintro e W82 ⟨p, c, p2, c2, rfl, hO, b82⟩
        clear Yx0 Yx1 Yx2 Lx Yy0 Yy1 Yy2 Ly Yr0 Yr1 Yr2 Lr Fr0 Fr1 Fr2
        have Rx := box_step Rx b82
        have Ry := box_step Ry b82
        have Rr := box_step Rr b82
        have B := Lib.hid (bstep B.out b82)
        have sb82 := b82.size
        have O := Lib.hid hO
        clear hO
        have Yx0 := Rx.cell 0 rfl
        have Yx1 := Rx.cell 1 rfl
        have Yx2 := Rx.cell 2 rfl
        have Lx := Rx.lt
        have Yy0 := Ry.cell 0 rfl
        have Yy1 := Ry.cell 1 rfl
        have Yy2 := Ry.cell 2 rfl
        have Ly := Ry.lt
        have Yr0 := Rr.cell 0 rfl
        have Yr1 := Rr.cell 1 rfl
        have Yr2 := Rr.cell 2 rfl
        have Lr := Rr.lt
        have Fr0 := Rr.frozen 0
        have Fr1 := Rr.frozen 1
        have Fr2 := Rr.frozen 2
        clear b82
        go_wp2
        refine bodyPost_ret (v := .agg #[.bool n, .slice p xs.length c, .slice p2 ds.length c2]) (by simp [results, Tryz.results13, go_sem, Yr0, Yr1, Yr2, Lr]) rfl ⟨p, c, p2, c2, rfl, rat_endR (by first | omega | (simp; done) | (simp; omega)) (by first | omega | (simp; done) | (simp; omega)) O.out (by first | omega | (simp; done) | (simp; omega)) B.out _ _ _⟩
      · have h3' : decide (0 ≤ ratCmpV n xs ds m ys es) = false := decide_eq_false h3
        rw [ratMaxP_gt h1 h2 h3]
        clear h1 h2
        go_enter Tryz.func13, Tryz.ntmps13
        go_wp2_with fail
        refine (areRats_any n a ca xs b cb ds m a2 ca2 ys b2 cb2 es _ (HA.out.below (bstep (ba3 _ _ _ _) (bstep (Below.refl _ _) (ba1 _ _)))) hn (HB.out.below (bstep (ba3 _ _ _ _) (bstep (Below.refl _ _) (ba1 _ _)))) hm (HA2.out.below (bstep (ba3 _ _ _ _) (bstep (Below.refl _ _) (ba1 _ _)))) hn2 (HB2.out.below (bstep (ba3 _ _ _ _) (bstep (Below.refl _ _) (ba1 _ _)))) hm2 (w.heap.size + 3) (bx4_3 (Below.refl _ _)) true HOK.out).mono ?_
        rintro e W83 ⟨rfl, b83⟩
        replace b83 := bstep (bstep (Below.refl _ _) (ba1 _ _)) b83
        have Rx := bx3_0 b83
        have Ry := bx3_1 b83
        have Rr := bx3_2 b83
        have B := Lib.hid (bstep (ba3 _ _ _ _) b83)
        have sb83 := b83.size
        try simp at sb83
        have Yx0 := Rx.cell 0 rfl
        have Yx1 := Rx.cell 1 rfl
        have Yx2 := Rx.cell 2 rfl
        have Lx := Rx.lt
        have Yy0 := Ry.cell 0 rfl
        have Yy1 := Ry.cell 1 rfl
        have Yy2 := Ry.cell 2 rfl
        have Ly := Ry.lt
        have Yr0 := Rr.cell 0 rfl
        have Yr1 := Rr.cell 1 rfl
        have Yr2 := Rr.cell 2 rfl
        have Lr := Rr.lt
        have Fr0 := Rr.frozen 0
        have Fr1 := Rr.frozen 1
        have Fr2 := Rr.frozen 2
        clear b83
        go_wp2_with fail
        refine (ratCompare_any n a ca xs b cb ds m a2 ca2 ys b2 cb2 es _ (HA.out.below B.out) (HB.out.below B.out) (HA2.out.below B.out) (HB2.out.below B.out) H1.out H2.out).mono ?_
        rintro e W84 ⟨rfl, b84⟩
        clear Yx0 Yx1 Yx2 Lx Yy0 Yy1 Yy2 Ly Yr0 Yr1 Yr2 Lr Fr0 Fr1 Fr2
        have Rx := box_step Rx b84
        have Ry := box_step Ry b84
        have Rr := box_step Rr b84
        have B := Lib.hid (bstep B.out b84)
        have sb84 := b84.size
        have Yx0 := Rx.cell 0 rfl
        have Yx1 := Rx.cell 1 rfl
        have Yx2 := Rx.cell 2 rfl
        have Lx := Rx.lt
        have Yy0 := Ry.cell 0 rfl
        have Yy1 := Ry.cell 1 rfl
        have Yy2 := Ry.cell 2 rfl
        have Ly := Ry.lt
        have Yr0 := Rr.cell 0 rfl
        have Yr1 := Rr.cell 1 rfl
        have Yr2 := Rr.cell 2 rfl
        have Lr := Rr.lt
        have Fr0 := Rr.frozen 0
        have Fr1 := Rr.frozen 1
        have Fr2 := Rr.frozen 2
        clear b84
        go_wp2_with fail
        refine (copyRat_any m a2 ca2 ys b2 cb2 es _ (HA2.out.below B.out) hn2 (HB2.out.below B.out) hm2).mono ?_
        rintro e W85 ⟨p, c, p2, c2, rfl, hO, b85⟩
        clear Yx0 Yx1 Yx2 Lx Yy0 Yy1 Yy2 Ly Yr0 Yr1 Yr2 Lr Fr0 Fr1 Fr2
        have Rx := box_step Rx b85
        have Ry := box_step Ry b85
        have Rr := box_step Rr b85
        have B := Lib.hid (bstep B.out b85)
        have sb85 := b85.size
        have O := Lib.hid hO
        clear hO
        have Yx0 := Rx.cell 0 rfl
        have Yx1 := Rx.cell 1 rfl
        have Yx2 := Rx.cell 2 rfl
        have Lx := Rx.lt
        have Yy0 := Ry.cell 0 rfl
        have Yy1 := Ry.cell 1 rfl
        have Yy2 := Ry.cell 2 rfl
        have Ly := Ry.lt
        have Yr0 := Rr.cell 0 rfl
        have Yr1 := Rr.cell 1 rfl
        have Yr2 := Rr.cell 2 rfl
        have Lr := Rr.lt
        have Fr0 := Rr.frozen 0
        have Fr1 := Rr.frozen 1
        have Fr2 := Rr.frozen 2
        clear b85
        go_wp2
        refine bodyPost_ret (v := .agg #[.bool m, .slice p ys.length c, .slice p2 es.length c2]) (by simp [results, Tryz.results13, go_sem, Yr0, Yr1, Yr2, Lr]) rfl ⟨p, c, p2, c2, rfl, rat_endR (by first | omega | (simp; done) | (simp; omega)) (by first | omega | (simp; done) | (simp; omega)) O.out (by first | omega | (simp; done) | (simp; omega)) B.out _ _ _⟩
    · have h2' := Bool.eq_false_iff.2 h2
      have HOK : Hid ((ratOkB n xs ds && ratOkB m ys es) = false) := by unfold Hid; rw [h2', Bool.and_false]
      rw [ratMaxP_no2 h2']
      clear h1 h2 h2'
      go_enter Tryz.func13, Tryz.ntmps13
      go_wp2_with fail
      refine (areRats_any n a ca xs b cb ds m a2 ca2 ys b2 cb2 es _ (HA.out.below (bstep (ba3 _ _ _ _) (bstep (Below.refl _ _) (ba1 _ _)))) hn (HB.out.below (bstep (ba3 _ _ _ _) (bstep (Below.refl _ _) (ba1 _ _)))) hm (HA2.out.below (bstep (ba3 _ _ _ _) (bstep (Below.refl _ _) (ba1 _ _)))) hn2 (HB2.out.below (bstep (ba3 _ _ _ _) (bstep (Below.refl _ _) (ba1 _ _)))) hm2 (w.heap.size + 3) (bx4_3 (Below.refl _ _)) false HOK.out).mono ?_
      rintro e W86 ⟨rfl, b86⟩
      replace b86 := bstep (bstep (Below.refl _ _) (ba1 _ _)) b86
      have Rx := bx3_0 b86
      have Ry := bx3_1 b86
      have Rr := bx3_2 b86
      have B := Lib.hid (bstep (ba3 _ _ _ _) b86)
      have sb86 := b86.size
      try simp at sb86
      have Yx0 := Rx.cell 0 rfl
      have Yx1 := Rx.cell 1 rfl
      have Yx2 := Rx.cell 2 rfl
      have Lx := Rx.lt
      have Yy0 := Ry.cell 0 rfl
      have Yy1 := Ry.cell 1 rfl
      have Yy2 := Ry.cell 2 rfl
      have Ly := Ry.lt
      have Yr0 := Rr.cell 0 rfl
      have Yr1 := Rr.cell 1 rfl
      have Yr2 := Rr.cell 2 rfl
      have Lr := Rr.lt
      have Fr0 := Rr.frozen 0
      have Fr1 := Rr.frozen 1
      have Fr2 := Rr.frozen 2
      clear b86
      go_wp2
      refine bodyPost_ret (v := .agg #[.bool false, .slice none 0 0, .slice none 0 0]) (by simp [results, Tryz.results13, go_sem, Yr0, Yr1, Yr2, Lr]) rfl ⟨none, 0, none, 0, rfl, ratz_endR (by first | omega | (simp; done) | (simp; omega)) B.out _ _ _⟩
  · have h1' := Bool.eq_false_iff.2 h1
    have HOK : Hid ((ratOkB n xs ds && ratOkB m ys es) = false) := by unfold Hid; rw [h1']; rfl
    rw [ratMaxP_no1 h1']
    clear h1 h1'
    go_enter Tryz.func13, Tryz.ntmps13
    go_wp2_with fail
    refine (areRats_any n a ca xs b cb ds m a2 ca2 ys b2 cb2 es _ (HA.out.below (bstep (ba3 _ _ _ _) (bstep (Below.refl _ _) (ba1 _ _)))) hn (HB.out.below (bstep (ba3 _ _ _ _) (bstep (Below.refl _ _) (ba1 _ _)))) hm (HA2.out.below (bstep (ba3 _ _ _ _) (bstep (Below.refl _ _) (ba1 _ _)))) hn2 (HB2.out.below (bstep (ba3 _ _ _ _) (bstep (Below.refl _ _) (ba1 _ _)))) hm2 (w.heap.size + 3) (bx4_3 (Below.refl _ _)) false HOK.out).mono ?_
    rintro e W87 ⟨rfl, b87⟩
    replace b87 := bstep (bstep (Below.refl _ _) (ba1 _ _)) b87
    have Rx := bx3_0 b87
    have Ry := bx3_1 b87
    have Rr := bx3_2 b87
    have B := Lib.hid (bstep (ba3 _ _ _ _) b87)
    have sb87 := b87.size
    try simp at sb87
    have Yx0 := Rx.cell 0 rfl
    have Yx1 := Rx.cell 1 rfl
    have Yx2 := Rx.cell 2 rfl
    have Lx := Rx.lt
    have Yy0 := Ry.cell 0 rfl
    have Yy1 := Ry.cell 1 rfl
    have Yy2 := Ry.cell 2 rfl
    have Ly := Ry.lt
    have Yr0 := Rr.cell 0 rfl
    have Yr1 := Rr.cell 1 rfl
    have Yr2 := Rr.cell 2 rfl
    have Lr := Rr.lt
    have Fr0 := Rr.frozen 0
    have Fr1 := Rr.frozen 1
    have Fr2 := Rr.frozen 2
    clear b87
    go_wp2
    refine bodyPost_ret (v := .agg #[.bool false, .slice none 0 0, .slice none 0 0]) (by simp [results, Tryz.results13, go_sem, Yr0, Yr1, Yr2, Lr]) rfl ⟨none, 0, none, 0, rfl, ratz_endR (by first | omega | (simp; done) | (simp; omega)) B.out _ _ _⟩

end
end Go.Proofs.YtehhpkeabckdaaaGreatDoor
