/- Fractions: the reference's sum and difference. -/
import Derived.Test.YtlpnhcoaidmiiaaRatT
namespace Go.Proofs.Ytlpnhcoaidmiiaa
set_option linter.unusedVariables false
set_option linter.unusedSimpArgs false
open Go.RowKit
section
variable (n : Bool) (a : Option Addr) (ca : Nat) (xs : List Int) (b : Option Addr) (cb : Nat) (ds : List Int) (m : Bool) (a2 : Option Addr) (ca2 : Nat) (ys : List Int) (b2 : Option Addr) (cb2 : Nat) (es : List Int) (w : World) (ha : IntsAt w a ca xs) (hn : xs.length ≤ 1048576) (hb : IntsAt w b cb ds) (hm : ds.length ≤ 1048576) (ha2 : IntsAt w a2 ca2 ys) (hn2 : ys.length ≤ 1048576) (hb2 : IntsAt w b2 cb2 es) (hm2 : es.length ≤ 1048576)
set_option maxHeartbeats 4000000 in
set_option maxRecDepth 100000 in
include ha hn hb ha2 hn2 hb2 in
theorem l04Add_one (h1 : ratOkB n xs ds = true) (h2 : ratOkB m ys es = true) (k1 : val ds = 1) (k2 : val es = 1) : Calls Try.prog 124 #[.agg #[.bool n, .slice a xs.length ca, .slice b ds.length cb], .agg #[.bool m, .slice a2 ys.length ca2, .slice b2 es.length cb2]] w (RatRetS w (ratAddP n xs ds m ys es)) := by
  have hlx := rok_lx h1
  have hld := rok_ld h1
  have hly := rok_lx h2
  have hle := rok_ld h2
  have HX := Lib.hid (rok_rx h1)
  have HD := Lib.hid (rok_rd h1)
  have HY := Lib.hid (rok_rx h2)
  have HE := Lib.hid (rok_rd h2)
  have HDG := Lib.hid (ratOk_den h1)
  have HEG := Lib.hid (ratOk_den h2)
  have HXG := Lib.hid (ratOk_num h1)
  have HYG := Lib.hid (ratOk_num h2)
  have hd1 : decide (val ds = 1) = true := decide_eq_true k1
  have he1 : decide (val es = 1) = true := decide_eq_true k2
  obtain ⟨z, hz⟩ : ∃ z, toI n xs + toI m ys = z := ⟨_, rfl⟩
  have HZ := Lib.hid hz
  have HF : Hid ((digs z.natAbs).length ≤ 60) := by
    have := natAbs_add_lt (x := toI n xs) (y := toI m ys) (k := 24) (by rw [toI_natAbs, HXG.out]; exact hlx) (by rw [toI_natAbs, HYG.out]; exact hly)
    rw [hz] at this
    unfold Hid; omega
  obtain ⟨R, hR⟩ : ∃ R, ratAddP n xs ds m ys es = R := ⟨_, rfl⟩
  have HL : Hid (∀ (W : World) (p : Option Addr) (c : Nat) (q : Option Addr), IntsAt W p c (ofI z).mag → IntsAt W q 1 [1] → Calls Try.prog 107 #[.bool (ofI z).neg, .slice p (ofI z).mag.length c, .slice q 1 1] W (RatRetS W R)) := by
    intro W p c q i1 i2
    have h := l04Low_any (ofI z).neg p c (ofI z).mag q 1 [1] W i1 (by have := HF.out; show (digs z.natAbs).length ≤ _; omega) i2 (by simp) (digs_rng _) (fun x hx => by simp at hx; subst hx; omega)
    have e : mkRA (ofI z).neg (val (ofI z).mag) (val [1]) = R := by
      rw [← hR, ratAddP_yes h1 h2, k1, k2, ← hz]
      show mkRA (decide _) (val (digs _)) 1 = mkRAz _ 1
      rw [val_digs]
      unfold mkRAz
      simp
    rw [e] at h
    exact h
  rw [hR]
  clear hR hz k1 k2 h1 h2
  have HA := Lib.hid ha
  have HB := Lib.hid hb
  have HA2 := Lib.hid ha2
  have HB2 := Lib.hid hb2
  clear ha hb ha2 hb2
  go_enter Try.func124, Try.ntmps124
  go_wp2_with fail
  refine (l04One_l b cb ds _ (HB.out.below (ba3 _ _ _ _)) HDG.out).mono ?_
  rintro e W1 ⟨rfl, b1⟩
  have Rx := bx3_0 b1
  have Ry := bx3_1 b1
  have Rr := bx3_2 b1
  have B := Lib.hid (bstep (ba3 _ _ _ _) b1)
  have sb1 := b1.size
  try simp at sb1
  have Yx0 := Rx.cell 0 rfl
  have Yx1 := Rx.cell 1 rfl
  have Yx2 := Rx.cell 2 rfl
  have Lx := Rx.lt
  have Yy0 := Ry.cell 0 rfl
  have Yy1 := Ry.cell 1 rfl
  have Yy2 := Ry.cell 2 rfl
  have Ly := Ry.lt
  have Yr0 := Rr.cell 0 rfl
  have Yr1 := Rr.cell 1 rfl
  have Yr2 := Rr.cell 2 rfl
  have Lr := Rr.lt
  have Fr0 := Rr.frozen 0
  have Fr1 := Rr.frozen 1
  have Fr2 := Rr.frozen 2
  clear b1
  go_wp2_with fail
  refine (l04One_l b2 cb2 es _ (HB2.out.below B.out) HEG.out).mono ?_
  rintro e W2 ⟨rfl, b2⟩
  clear Yx0 Yx1 Yx2 Lx Yy0 Yy1 Yy2 Ly Yr0 Yr1 Yr2 Lr Fr0 Fr1 Fr2
  have Rx := box_step Rx b2
  have Ry := box_step Ry b2
  have Rr := box_step Rr b2
  have B := Lib.hid (bstep B.out b2)
  have sb2 := b2.size
  have Yx0 := Rx.cell 0 rfl
  have Yx1 := Rx.cell 1 rfl
  have Yx2 := Rx.cell 2 rfl
  have Lx := Rx.lt
  have Yy0 := Ry.cell 0 rfl
  have Yy1 := Ry.cell 1 rfl
  have Yy2 := Ry.cell 2 rfl
  have Ly := Ry.lt
  have Yr0 := Rr.cell 0 rfl
  have Yr1 := Rr.cell 1 rfl
  have Yr2 := Rr.cell 2 rfl
  have Lr := Rr.lt
  have Fr0 := Rr.frozen 0
  have Fr1 := Rr.frozen 1
  have Fr2 := Rr.frozen 2
  clear b2
  go_wp2_with fail
  refine (l03Add_of n a ca xs m a2 ca2 ys z _ (HA.out.below B.out) (HA2.out.below B.out) (by omega) (by omega) HXG.out HYG.out HZ.out HF.out).mono ?_
  rintro e W3 ⟨p, c, rfl, hO1, b3⟩
  clear Yx0 Yx1 Yx2 Lx Yy0 Yy1 Yy2 Ly Yr0 Yr1 Yr2 Lr Fr0 Fr1 Fr2
  have Rx := box_step Rx b3
  have Ry := box_step Ry b3
  have Rr := box_step Rr b3
  have B := Lib.hid (bstep B.out b3)
  have sb3 := b3.size
  have O1 := Lib.hid hO1
  clear hO1
  have Yx0 := Rx.cell 0 rfl
  have Yx1 := Rx.cell 1 rfl
  have Yx2 := Rx.cell 2 rfl
  have Lx := Rx.lt
  have Yy0 := Ry.cell 0 rfl
  have Yy1 := Ry.cell 1 rfl
  have Yy2 := Ry.cell 2 rfl
  have Ly := Ry.lt
  have Yr0 := Rr.cell 0 rfl
  have Yr1 := Rr.cell 1 rfl
  have Yr2 := Rr.cell 2 rfl
  have Lr := Rr.lt
  have Fr0 := Rr.frozen 0
  have Fr1 := Rr.frozen 1
  have Fr2 := Rr.frozen 2
  clear b3
  go_wp2_with fail
  refine (HL.out _ p c _ (O1.out.below (bstep (bstep (Below.refl _ _) (ba1 _ _)) (ba1 _ _))).ints (one_atB _ (by simp))).mono ?_
  rintro e W4 ⟨p3, c3, p4, c4, rfl, hO, b4⟩
  replace b4 := bstep (bstep (bstep (Below.refl _ _) (ba1 _ _)) (ba1 _ _)) b4
  clear Yx0 Yx1 Yx2 Lx Yy0 Yy1 Yy2 Ly Yr0 Yr1 Yr2 Lr Fr0 Fr1 Fr2
  have Rx := box_step Rx b4
  have Ry := box_step Ry b4
  have Rr := box_step Rr b4
  have B := Lib.hid (bstep B.out b4)
  have O1 := Lib.hid (O1.out.below b4)
  have sb4 := b4.size
  have O := Lib.hid hO
  clear hO
  have Yx0 := Rx.cell 0 rfl
  have Yx1 := Rx.cell 1 rfl
  have Yx2 := Rx.cell 2 rfl
  have Lx := Rx.lt
  have Yy0 := Ry.cell 0 rfl
  have Yy1 := Ry.cell 1 rfl
  have Yy2 := Ry.cell 2 rfl
  have Ly := Ry.lt
  have Yr0 := Rr.cell 0 rfl
  have Yr1 := Rr.cell 1 rfl
  have Yr2 := Rr.cell 2 rfl
  have Lr := Rr.lt
  have Fr0 := Rr.frozen 0
  have Fr1 := Rr.frozen 1
  have Fr2 := Rr.frozen 2
  clear b4
  go_wp2
  refine bodyPost_ret (v := .agg #[.bool R.neg, .slice p3 R.num.length c3, .slice p4 R.den.length c4]) (by simp [results, Try.results124, go_sem, Yr0, Yr1, Yr2, Lr]) rfl ⟨p3, c3, p4, c4, rfl, ratF_end (by first | omega | (simp; done) | (simp; omega)) (by first | omega | (simp; done) | (simp; omega)) O.out B.out _ _ _⟩

set_option maxHeartbeats 4000000 in
set_option maxRecDepth 100000 in
include ha hn hb hm ha2 hn2 hb2 hm2 in
theorem l04Add_d (h1 : ratOkB n xs ds = true) (h2 : ratOkB m ys es = true) (k1 : val ds ≠ 1) : Calls Try.prog 124 #[.agg #[.bool n, .slice a xs.length ca, .slice b ds.length cb], .agg #[.bool m, .slice a2 ys.length ca2, .slice b2 es.length cb2]] w (RatRetS w (ratAddP n xs ds m ys es)) := by
  have hlx := rok_lx h1
  have hld := rok_ld h1
  have hly := rok_lx h2
  have hle := rok_ld h2
  have HX := Lib.hid (rok_rx h1)
  have HD := Lib.hid (rok_rd h1)
  have HY := Lib.hid (rok_rx h2)
  have HE := Lib.hid (rok_rd h2)
  have HDG := Lib.hid (ratOk_den h1)
  have HEG := Lib.hid (ratOk_den h2)
  have HXG := Lib.hid (ratOk_num h1)
  have HYG := Lib.hid (ratOk_num h2)
  have hd1 : decide (val ds = 1) = false := decide_eq_false k1
  clear k1
  obtain ⟨N, hN⟩ : ∃ N : Nat, val xs * val es = N := ⟨_, rfl⟩
  have hlN : (digs N).length ≤ 48 := by rw [← hN]; exact digs_mul_len (rok_rx h1) (rok_rd h2) (by omega) (by omega)
  obtain ⟨M, hM⟩ : ∃ N : Nat, val ys * val ds = N := ⟨_, rfl⟩
  have hlM : (digs M).length ≤ 48 := by rw [← hM]; exact digs_mul_len (rok_rx h2) (rok_rd h1) (by omega) (by omega)
  obtain ⟨D, hD⟩ : ∃ N : Nat, val ds * val es = N := ⟨_, rfl⟩
  have hlD : (digs D).length ≤ 48 := by rw [← hD]; exact digs_mul_len (rok_rd h1) (rok_rd h2) (by omega) (by omega)
  have HN := Lib.hid hN
  have HM := Lib.hid hM
  have HDD := Lib.hid hD
  obtain ⟨z, hz⟩ : ∃ z, toI (mkBI n (digs N)).neg (digs N) + toI (mkBI m (digs M)).neg (digs M) = z := ⟨_, rfl⟩
  have HZ := Lib.hid hz
  have HF : Hid ((digs z.natAbs).length ≤ 60) := by
    have := natAbs_add_lt (x := toI (mkBI n (digs N)).neg (digs N)) (y := toI (mkBI m (digs M)).neg (digs M)) (k := 48) (by rw [toI_natAbs, val_digs]; exact hlN) (by rw [toI_natAbs, val_digs]; exact hlM)
    rw [hz] at this
    unfold Hid; omega
  obtain ⟨R, hR⟩ : ∃ R, ratAddP n xs ds m ys es = R := ⟨_, rfl⟩
  have HL : Hid (∀ (W : World) (p : Option Addr) (c : Nat) (q : Option Addr) (d : Nat), IntsAt W p c (ofI z).mag → IntsAt W q d (digs D) → Calls Try.prog 107 #[.bool (ofI z).neg, .slice p (ofI z).mag.length c, .slice q (digs D).length d] W (RatRetS W R)) := by
    intro W p c q d i1 i2
    have h := l04Low_any (ofI z).neg p c (ofI z).mag q d (digs D) W i1 (by have := HF.out; show (digs z.natAbs).length ≤ _; omega) i2 (by omega) (digs_rng _) (digs_rng _)
    have e : mkRA (ofI z).neg (val (ofI z).mag) (val (digs D)) = R := by
      rw [← hR, ratAddP_yes h1 h2, hD, toI_scale, toI_scale, hN, hM, ← toI_mk, ← toI_mk, hz]
      show mkRA (decide _) (val (digs _)) (val (digs D)) = mkRAz z D
      rw [val_digs, val_digs]
      rfl
    rw [e] at h
    exact h
  rw [hR]
  clear hR hz hN hM hD h1 h2
  have HA := Lib.hid ha
  have HB := Lib.hid hb
  have HA2 := Lib.hid ha2
  have HB2 := Lib.hid hb2
  clear ha hb ha2 hb2
  go_enter Try.func124, Try.ntmps124
  go_wp2_with fail
  refine (l04One_l b cb ds _ (HB.out.below (ba3 _ _ _ _)) HDG.out).mono ?_
  rintro e W5 ⟨rfl, b5⟩
  have Rx := bx3_0 b5
  have Ry := bx3_1 b5
  have Rr := bx3_2 b5
  have B := Lib.hid (bstep (ba3 _ _ _ _) b5)
  have sb5 := b5.size
  try simp at sb5
  have Yx0 := Rx.cell 0 rfl
  have Yx1 := Rx.cell 1 rfl
  have Yx2 := Rx.cell 2 rfl
  have Lx := Rx.lt
  have Yy0 := Ry.cell 0 rfl
  have Yy1 := Ry.cell 1 rfl
  have Yy2 := Ry.cell 2 rfl
  have Ly := Ry.lt
  have Yr0 := Rr.cell 0 rfl
  have Yr1 := Rr.cell 1 rfl
  have Yr2 := Rr.cell 2 rfl
  have Lr := Rr.lt
  have Fr0 := Rr.frozen 0
  have Fr1 := Rr.frozen 1
  have Fr2 := Rr.frozen 2
  clear b5
  have BB := B.out
  go_upto_region 4 with fail
  go_cut [6] (fun s6 wx => ∃ (R : Nat) (p1 : Option Addr) (c1 : Nat), s6 = .pointer (some ⟨R, 0, none⟩) ∧ W5.heap.size ≤ R ∧ Box wx R #[.bool (mkBI n (digs N)).neg, .slice p1 (digs N).length c1] ∧ OwnI wx W5.heap.size wx.heap.size (.slice p1 (digs N).length c1) (digs N) ∧ Below W5.heap.size W5 wx)
  case first =>
    have TYx0 : W5.cell? ⟨w.heap.size, 0, none⟩ = some (.bool n) := Yx0
    have TYx1 : W5.cell? ⟨w.heap.size, 1, none⟩ = some (.slice a xs.length ca) := Yx1
    have TYx2 : W5.cell? ⟨w.heap.size, 2, none⟩ = some (.slice b ds.length cb) := Yx2
    have TYy0 : W5.cell? ⟨w.heap.size + 1, 0, none⟩ = some (.bool m) := Yy0
    have TYy1 : W5.cell? ⟨w.heap.size + 1, 1, none⟩ = some (.slice a2 ys.length ca2) := Yy1
    have TYy2 : W5.cell? ⟨w.heap.size + 1, 2, none⟩ = some (.slice b2 es.length cb2) := Yy2
    have TYr0 : W5.cell? ⟨w.heap.size + 2, 0, none⟩ = some (.bool false) := Yr0
    have TYr1 : W5.cell? ⟨w.heap.size + 2, 1, none⟩ = some (.slice none 0 0) := Yr1
    have TYr2 : W5.cell? ⟨w.heap.size + 2, 2, none⟩ = some (.slice none 0 0) := Yr2
    go_region_held3 (fun w' => w'.cell? ⟨w.heap.size, 0, none⟩ = some (.bool n) ∧ w'.cell? ⟨w.heap.size, 1, none⟩ = some (.slice a xs.length ca) ∧ w'.cell? ⟨w.heap.size, 2, none⟩ = some (.slice b ds.length cb) ∧ w'.cell? ⟨w.heap.size + 1, 0, none⟩ = some (.bool m) ∧ w'.cell? ⟨w.heap.size + 1, 1, none⟩ = some (.slice a2 ys.length ca2) ∧ w'.cell? ⟨w.heap.size + 1, 2, none⟩ = some (.slice b2 es.length cb2) ∧ w'.cell? ⟨w.heap.size + 2, 0, none⟩ = some (.bool false) ∧ w'.cell? ⟨w.heap.size + 2, 1, none⟩ = some (.slice none 0 0) ∧ w'.cell? ⟨w.heap.size + 2, 2, none⟩ = some (.slice none 0 0))
      ((refine ⟨?_, ?_, ?_, ?_, ?_, ?_, ?_, ?_, ?_⟩ <;> (repeat first | with_reducible assumption | with_reducible refine cell_low ?_ (by first | omega | (simp; done) | (simp; omega)) | with_reducible refine cell_step ?_ (ba1 _ _) | with_reducible refine cell_step ?_ (by assumption) | with_reducible refine cell_dr ?_)))
      (first | (go_at_call 121; refine (l02Mul_out a ca xs b2 cb2 es N _ (HA.out.below (by (repeat first | with_reducible assumption | with_reducible exact Below.refl _ _ | with_reducible refine bstep ?_ (ba1 _ _) | with_reducible refine bstep ?_ (by assumption) | with_reducible refine Below.drew ?_))) (HB2.out.below (by (repeat first | with_reducible assumption | with_reducible exact Below.refl _ _ | with_reducible refine bstep ?_ (ba1 _ _) | with_reducible refine bstep ?_ (by assumption) | with_reducible refine Below.drew ?_))) (by omega) (by omega) HX.out HE.out HN.out).mono ?_; rintro e W6 ⟨p, c, rfl, hU1, b6⟩; have s6 := b6.size; (try simp at s6); (first | have RZ := box_step RZ b6 | have RZ : Box W6 W5.heap.size _ := bx1_0 (w := W5.drew) b6 | skip)) | (go_at_call 126; refine (l03Make_dig n N p c _ (hU1.below (by (repeat first | with_reducible assumption | with_reducible exact Below.refl _ _ | with_reducible refine bstep ?_ (ba1 _ _) | with_reducible refine bstep ?_ (by assumption) | with_reducible refine Below.drew ?_))).ints (by omega)).mono ?_; rintro e W7 ⟨p1, c1, rfl, hO1, b7⟩; have s7 := b7.size; (try simp at s7); (first | have RZ := box_step RZ b7 | have RZ : Box W7 W6.heap.size _ := bx1_0 b7 | skip); (try (have Z0 : W7.cell? ⟨_, 0, none⟩ = some (.bool false) := RZ.cell 0 rfl; have FZ0 := RZ.frozen 0; have Z1 : W7.cell? ⟨_, 1, none⟩ = some (.slice none 0 0) := RZ.cell 1 rfl; have FZ1 := RZ.frozen 1; have LZ := RZ.lt))))
    all_goals (go_wp2_with fail; go_meet; (first | exact ⟨_, _, _, rfl, (by first | omega | (simp; done) | (simp; omega)), bx1_0 (Below.refl _ _), (hO1.below (ba1 _ _)).mono (by first | omega | (simp; done) | (simp; omega)) (by first | omega | (simp; done) | (simp; omega)), (by (repeat first | with_reducible assumption | with_reducible exact Below.refl _ _ | with_reducible refine bstep ?_ (ba1 _ _) | with_reducible refine bstep ?_ (by assumption) | with_reducible refine Below.drew ?_))⟩ | exact ⟨_, _, _, rfl, (by first | omega | (simp; done) | (simp; omega)), box_as (box_put (k := 1) (box_put (k := 0) RZ)) rfl, ((hO1.put (k := 0) (by first | omega | (simp; done) | (simp; omega))).put (k := 1) (by first | omega | (simp; done) | (simp; omega))).mono (by first | omega | (simp; done) | (simp; omega)) (by first | omega | (simp; done) | (simp; omega)), (below_put (k := 1) (below_put (k := 0) (by (repeat first | with_reducible assumption | with_reducible exact Below.refl _ _ | with_reducible refine bstep ?_ (ba1 _ _) | with_reducible refine bstep ?_ (by assumption) | with_reducible refine Below.drew ?_)) (by first | omega | (simp; done) | (simp; omega))) (by first | omega | (simp; done) | (simp; omega)))⟩))
  case rest =>
    obtain ⟨Rq, p1, c1, rfl, hRq, Rnq, hO1, b8⟩ := hcut
    obtain ⟨W8, hW8⟩ : ∃ W', W' = wc := ⟨_, rfl⟩
    subst hW8
    clear BB
    clear Yx0 Yx1 Yx2 Lx Yy0 Yy1 Yy2 Ly Yr0 Yr1 Yr2 Lr Fr0 Fr1 Fr2
    have Rx := box_step Rx b8
    have Ry := box_step Ry b8
    have Rr := box_step Rr b8
    have B := Lib.hid (bstep B.out b8)
    have s8 := b8.size
    have O1 := Lib.hid hO1
    clear hO1
    have Rqb := Rnq
    have Yx0 := Rx.cell 0 rfl
    have Yx1 := Rx.cell 1 rfl
    have Yx2 := Rx.cell 2 rfl
    have Lx := Rx.lt
    have Yy0 := Ry.cell 0 rfl
    have Yy1 := Ry.cell 1 rfl
    have Yy2 := Ry.cell 2 rfl
    have Ly := Ry.lt
    have Yr0 := Rr.cell 0 rfl
    have Yr1 := Rr.cell 1 rfl
    have Yr2 := Rr.cell 2 rfl
    have Lr := Rr.lt
    have Fr0 := Rr.frozen 0
    have Fr1 := Rr.frozen 1
    have Fr2 := Rr.frozen 2
    have Yqb0 := Rqb.cell 0 rfl
    have Yqb1 := Rqb.cell 1 rfl
    have Lqb := Rqb.lt
    clear b8 Rnq
    have BB := B.out
    go_upto_region 5 with fail
    go_cut [7] (fun s7 wx => ∃ (R : Nat) (p2 : Option Addr) (c2 : Nat), s7 = .pointer (some ⟨R, 0, none⟩) ∧ W8.heap.size ≤ R ∧ Box wx R #[.bool (mkBI m (digs M)).neg, .slice p2 (digs M).length c2] ∧ OwnI wx W8.heap.size wx.heap.size (.slice p2 (digs M).length c2) (digs M) ∧ Below W8.heap.size W8 wx)
    case first =>
      have TYx0 : W8.cell? ⟨w.heap.size, 0, none⟩ = some (.bool n) := Yx0
      have TYx1 : W8.cell? ⟨w.heap.size, 1, none⟩ = some (.slice a xs.length ca) := Yx1
      have TYx2 : W8.cell? ⟨w.heap.size, 2, none⟩ = some (.slice b ds.length cb) := Yx2
      have TYy0 : W8.cell? ⟨w.heap.size + 1, 0, none⟩ = some (.bool m) := Yy0
      have TYy1 : W8.cell? ⟨w.heap.size + 1, 1, none⟩ = some (.slice a2 ys.length ca2) := Yy1
      have TYy2 : W8.cell? ⟨w.heap.size + 1, 2, none⟩ = some (.slice b2 es.length cb2) := Yy2
      have TYr0 : W8.cell? ⟨w.heap.size + 2, 0, none⟩ = some (.bool false) := Yr0
      have TYr1 : W8.cell? ⟨w.heap.size + 2, 1, none⟩ = some (.slice none 0 0) := Yr1
      have TYr2 : W8.cell? ⟨w.heap.size + 2, 2, none⟩ = some (.slice none 0 0) := Yr2
      have TYqb0 : W8.cell? ⟨Rq, 0, none⟩ = some (.bool (mkBI n (digs N)).neg) := Yqb0
      have TYqb1 : W8.cell? ⟨Rq, 1, none⟩ = some (.slice p1 (digs N).length c1) := Yqb1
      go_region_held3 (fun w' => w'.cell? ⟨w.heap.size, 0, none⟩ = some (.bool n) ∧ w'.cell? ⟨w.heap.size, 1, none⟩ = some (.slice a xs.length ca) ∧ w'.cell? ⟨w.heap.size, 2, none⟩ = some (.slice b ds.length cb) ∧ w'.cell? ⟨w.heap.size + 1, 0, none⟩ = some (.bool m) ∧ w'.cell? ⟨w.heap.size + 1, 1, none⟩ = some (.slice a2 ys.length ca2) ∧ w'.cell? ⟨w.heap.size + 1, 2, none⟩ = some (.slice b2 es.length cb2) ∧ w'.cell? ⟨w.heap.size + 2, 0, none⟩ = some (.bool false) ∧ w'.cell? ⟨w.heap.size + 2, 1, none⟩ = some (.slice none 0 0) ∧ w'.cell? ⟨w.heap.size + 2, 2, none⟩ = some (.slice none 0 0) ∧ w'.cell? ⟨Rq, 0, none⟩ = some (.bool (mkBI n (digs N)).neg) ∧ w'.cell? ⟨Rq, 1, none⟩ = some (.slice p1 (digs N).length c1))
        ((refine ⟨?_, ?_, ?_, ?_, ?_, ?_, ?_, ?_, ?_, ?_, ?_⟩ <;> (repeat first | with_reducible assumption | with_reducible refine cell_low ?_ (by first | omega | (simp; done) | (simp; omega)) | with_reducible refine cell_step ?_ (ba1 _ _) | with_reducible refine cell_step ?_ (by assumption) | with_reducible refine cell_dr ?_)))
        (first | (go_at_call 121; refine (l02Mul_out a2 ca2 ys b cb ds M _ (HA2.out.below (by (repeat first | with_reducible assumption | with_reducible exact Below.refl _ _ | with_reducible refine bstep ?_ (ba1 _ _) | with_reducible refine bstep ?_ (by assumption) | with_reducible refine Below.drew ?_))) (HB.out.below (by (repeat first | with_reducible assumption | with_reducible exact Below.refl _ _ | with_reducible refine bstep ?_ (ba1 _ _) | with_reducible refine bstep ?_ (by assumption) | with_reducible refine Below.drew ?_))) (by omega) (by omega) HY.out HD.out HM.out).mono ?_; rintro e W9 ⟨p, c, rfl, hU2, b9⟩; have s9 := b9.size; (try simp at s9); (first | have RZ := box_step RZ b9 | have RZ : Box W9 W8.heap.size _ := bx1_0 (w := W8.drew) b9 | skip)) | (go_at_call 126; refine (l03Make_dig m M p c _ (hU2.below (by (repeat first | with_reducible assumption | with_reducible exact Below.refl _ _ | with_reducible refine bstep ?_ (ba1 _ _) | with_reducible refine bstep ?_ (by assumption) | with_reducible refine Below.drew ?_))).ints (by omega)).mono ?_; rintro e W10 ⟨p2, c2, rfl, hO2, b10⟩; have s10 := b10.size; (try simp at s10); (first | have RZ := box_step RZ b10 | have RZ : Box W10 W9.heap.size _ := bx1_0 b10 | skip); (try (have Z0 : W10.cell? ⟨_, 0, none⟩ = some (.bool false) := RZ.cell 0 rfl; have FZ0 := RZ.frozen 0; have Z1 : W10.cell? ⟨_, 1, none⟩ = some (.slice none 0 0) := RZ.cell 1 rfl; have FZ1 := RZ.frozen 1; have LZ := RZ.lt))))
      all_goals (go_wp2_with fail; go_meet; (first | exact ⟨_, _, _, rfl, (by first | omega | (simp; done) | (simp; omega)), bx1_0 (Below.refl _ _), (hO2.below (ba1 _ _)).mono (by first | omega | (simp; done) | (simp; omega)) (by first | omega | (simp; done) | (simp; omega)), (by (repeat first | with_reducible assumption | with_reducible exact Below.refl _ _ | with_reducible refine bstep ?_ (ba1 _ _) | with_reducible refine bstep ?_ (by assumption) | with_reducible refine Below.drew ?_))⟩ | exact ⟨_, _, _, rfl, (by first | omega | (simp; done) | (simp; omega)), box_as (box_put (k := 1) (box_put (k := 0) RZ)) rfl, ((hO2.put (k := 0) (by first | omega | (simp; done) | (simp; omega))).put (k := 1) (by first | omega | (simp; done) | (simp; omega))).mono (by first | omega | (simp; done) | (simp; omega)) (by first | omega | (simp; done) | (simp; omega)), (below_put (k := 1) (below_put (k := 0) (by (repeat first | with_reducible assumption | with_reducible exact Below.refl _ _ | with_reducible refine bstep ?_ (ba1 _ _) | with_reducible refine bstep ?_ (by assumption) | with_reducible refine Below.drew ?_)) (by first | omega | (simp; done) | (simp; omega))) (by first | omega | (simp; done) | (simp; omega)))⟩))
    case rest =>
      obtain ⟨Rs, p2, c2, rfl, hRs, Rns, hO2, b11⟩ := hcut
      obtain ⟨W11, hW11⟩ : ∃ W', W' = wc := ⟨_, rfl⟩
      subst hW11
      clear BB
      clear Yx0 Yx1 Yx2 Lx Yy0 Yy1 Yy2 Ly Yr0 Yr1 Yr2 Lr Fr0 Fr1 Fr2 Yqb0 Yqb1 Lqb
      have Rx := box_step Rx b11
      have Ry := box_step Ry b11
      have Rr := box_step Rr b11
      have Rqb := box_step Rqb b11
      have B := Lib.hid (bstep B.out b11)
      have O1 := Lib.hid (O1.out.below b11)
      have s11 := b11.size
      have O2 := Lib.hid hO2
      clear hO2
      have Rsb := Rns
      have Yx0 := Rx.cell 0 rfl
      have Yx1 := Rx.cell 1 rfl
      have Yx2 := Rx.cell 2 rfl
      have Lx := Rx.lt
      have Yy0 := Ry.cell 0 rfl
      have Yy1 := Ry.cell 1 rfl
      have Yy2 := Ry.cell 2 rfl
      have Ly := Ry.lt
      have Yr0 := Rr.cell 0 rfl
      have Yr1 := Rr.cell 1 rfl
      have Yr2 := Rr.cell 2 rfl
      have Lr := Rr.lt
      have Fr0 := Rr.frozen 0
      have Fr1 := Rr.frozen 1
      have Fr2 := Rr.frozen 2
      have Yqb0 := Rqb.cell 0 rfl
      have Yqb1 := Rqb.cell 1 rfl
      have Lqb := Rqb.lt
      have Ysb0 := Rsb.cell 0 rfl
      have Ysb1 := Rsb.cell 1 rfl
      have Lsb := Rsb.lt
      clear b11 Rns
      have BB := B.out
      go_upto_region 6 with fail
      go_cut [8] (fun s8 wx => ∃ (R : Nat) (p3 : Option Addr) (c3 : Nat), s8 = .pointer (some ⟨R, 0, none⟩) ∧ W11.heap.size ≤ R ∧ Box wx R #[.bool (ofI z).neg, .slice p3 (ofI z).mag.length c3] ∧ OwnI wx W11.heap.size wx.heap.size (.slice p3 ((ofI z).mag).length c3) ((ofI z).mag) ∧ Below W11.heap.size W11 wx)
      case first =>
        go_wp2_with fail
        refine (l03Add_of (mkBI n (digs N)).neg p1 c1 (digs N) (mkBI m (digs M)).neg p2 c2 (digs M) z _ (O1.out.below (by (repeat first | with_reducible assumption | with_reducible exact Below.refl _ _ | with_reducible refine bstep ?_ (ba1 _ _) | with_reducible refine bstep ?_ (by assumption) | with_reducible refine Below.drew ?_))).ints (O2.out.below (by (repeat first | with_reducible assumption | with_reducible exact Below.refl _ _ | with_reducible refine bstep ?_ (ba1 _ _) | with_reducible refine bstep ?_ (by assumption) | with_reducible refine Below.drew ?_))).ints (by omega) (by omega) (by rw [val_digs]) (by rw [val_digs]) HZ.out HF.out).mono ?_; rintro e W12 ⟨p3, c3, rfl, hO3, b12⟩; have s12 := b12.size; (try simp at s12)
        all_goals (go_wp2_with fail; go_meet; (first | exact ⟨_, _, _, rfl, (by first | omega | (simp; done) | (simp; omega)), bx1_0 (Below.refl _ _), (hO3.below (ba1 _ _)).mono (by first | omega | (simp; done) | (simp; omega)) (by first | omega | (simp; done) | (simp; omega)), (by (repeat first | with_reducible assumption | with_reducible exact Below.refl _ _ | with_reducible refine bstep ?_ (ba1 _ _) | with_reducible refine bstep ?_ (by assumption) | with_reducible refine Below.drew ?_))⟩ | exact ⟨_, _, _, rfl, (by first | omega | (simp; done) | (simp; omega)), box_as (box_put (k := 1) (box_put (k := 0) RZ)) rfl, ((hO3.put (k := 0) (by first | omega | (simp; done) | (simp; omega))).put (k := 1) (by first | omega | (simp; done) | (simp; omega))).mono (by first | omega | (simp; done) | (simp; omega)) (by first | omega | (simp; done) | (simp; omega)), (below_put (k := 1) (below_put (k := 0) (by (repeat first | with_reducible assumption | with_reducible exact Below.refl _ _ | with_reducible refine bstep ?_ (ba1 _ _) | with_reducible refine bstep ?_ (by assumption) | with_reducible refine Below.drew ?_)) (by first | omega | (simp; done) | (simp; omega))) (by first | omega | (simp; done) | (simp; omega)))⟩))
      case rest =>
        obtain ⟨Rt, p3, c3, rfl, hRt, Rnt, hO3, b13⟩ := hcut
        obtain ⟨W13, hW13⟩ : ∃ W', W' = wc := ⟨_, rfl⟩
        subst hW13
        clear BB
        clear Yx0 Yx1 Yx2 Lx Yy0 Yy1 Yy2 Ly Yr0 Yr1 Yr2 Lr Fr0 Fr1 Fr2 Yqb0 Yqb1 Lqb Ysb0 Ysb1 Lsb
        have Rx := box_step Rx b13
        have Ry := box_step Ry b13
        have Rr := box_step Rr b13
        have Rqb := box_step Rqb b13
        have Rsb := box_step Rsb b13
        have B := Lib.hid (bstep B.out b13)
        have O1 := Lib.hid (O1.out.below b13)
        have O2 := Lib.hid (O2.out.below b13)
        have s13 := b13.size
        have O3 := Lib.hid hO3
        clear hO3
        have Rtb := Rnt
        have Yx0 := Rx.cell 0 rfl
        have Yx1 := Rx.cell 1 rfl
        have Yx2 := Rx.cell 2 rfl
        have Lx := Rx.lt
        have Yy0 := Ry.cell 0 rfl
        have Yy1 := Ry.cell 1 rfl
        have Yy2 := Ry.cell 2 rfl
        have Ly := Ry.lt
        have Yr0 := Rr.cell 0 rfl
        have Yr1 := Rr.cell 1 rfl
        have Yr2 := Rr.cell 2 rfl
        have Lr := Rr.lt
        have Fr0 := Rr.frozen 0
        have Fr1 := Rr.frozen 1
        have Fr2 := Rr.frozen 2
        have Yqb0 := Rqb.cell 0 rfl
        have Yqb1 := Rqb.cell 1 rfl
        have Lqb := Rqb.lt
        have Ysb0 := Rsb.cell 0 rfl
        have Ysb1 := Rsb.cell 1 rfl
        have Lsb := Rsb.lt
        have Ytb0 := Rtb.cell 0 rfl
        have Ytb1 := Rtb.cell 1 rfl
        have Ltb := Rtb.lt
        clear b13 Rnt
        go_wp2_with fail
        go_region_held3 (fun w' => w'.cell? ⟨w.heap.size, 0, none⟩ = some (.bool n) ∧ w'.cell? ⟨w.heap.size, 1, none⟩ = some (.slice a xs.length ca) ∧ w'.cell? ⟨w.heap.size, 2, none⟩ = some (.slice b ds.length cb) ∧ w'.cell? ⟨w.heap.size + 1, 0, none⟩ = some (.bool m) ∧ w'.cell? ⟨w.heap.size + 1, 1, none⟩ = some (.slice a2 ys.length ca2) ∧ w'.cell? ⟨w.heap.size + 1, 2, none⟩ = some (.slice b2 es.length cb2) ∧ w'.cell? ⟨Rq, 0, none⟩ = some (.bool (mkBI n (digs N)).neg) ∧ w'.cell? ⟨Rq, 1, none⟩ = some (.slice p1 (digs N).length c1) ∧ w'.cell? ⟨Rs, 0, none⟩ = some (.bool (mkBI m (digs M)).neg) ∧ w'.cell? ⟨Rs, 1, none⟩ = some (.slice p2 (digs M).length c2) ∧ w'.cell? ⟨Rt, 0, none⟩ = some (.bool (ofI z).neg) ∧ w'.cell? ⟨Rt, 1, none⟩ = some (.slice p3 (ofI z).mag.length c3))
          ((first | exact ⟨Yx0, Yx1, Yx2, Yy0, Yy1, Yy2, Yqb0, Yqb1, Ysb0, Ysb1, Ytb0, Ytb1⟩ | exact ⟨cell_stepD Yx0 b14, cell_stepD Yx1 b14, cell_stepD Yx2 b14, cell_stepD Yy0 b14, cell_stepD Yy1 b14, cell_stepD Yy2 b14, cell_stepD Yqb0 b14, cell_stepD Yqb1 b14, cell_stepD Ysb0 b14, cell_stepD Ysb1 b14, cell_stepD Ytb0 b14, cell_stepD Ytb1 b14⟩ | exact ⟨cell_step (cell_stepD Yx0 b14) b15, cell_step (cell_stepD Yx1 b14) b15, cell_step (cell_stepD Yx2 b14) b15, cell_step (cell_stepD Yy0 b14) b15, cell_step (cell_stepD Yy1 b14) b15, cell_step (cell_stepD Yy2 b14) b15, cell_step (cell_stepD Yqb0 b14) b15, cell_step (cell_stepD Yqb1 b14) b15, cell_step (cell_stepD Ysb0 b14) b15, cell_step (cell_stepD Ysb1 b14) b15, cell_step (cell_stepD Ytb0 b14) b15, cell_step (cell_stepD Ytb1 b14) b15⟩ | exact ⟨cell_ne (cell_ne (cell_ne (cell_step (cell_stepD Yx0 b14) b15) (by first | (simp; done) | (simp; omega) | omega)) (by first | (simp; done) | (simp; omega) | omega)) (by first | (simp; done) | (simp; omega) | omega), cell_ne (cell_ne (cell_ne (cell_step (cell_stepD Yx1 b14) b15) (by first | (simp; done) | (simp; omega) | omega)) (by first | (simp; done) | (simp; omega) | omega)) (by first | (simp; done) | (simp; omega) | omega), cell_ne (cell_ne (cell_ne (cell_step (cell_stepD Yx2 b14) b15) (by first | (simp; done) | (simp; omega) | omega)) (by first | (simp; done) | (simp; omega) | omega)) (by first | (simp; done) | (simp; omega) | omega), cell_ne (cell_ne (cell_ne (cell_step (cell_stepD Yy0 b14) b15) (by first | (simp; done) | (simp; omega) | omega)) (by first | (simp; done) | (simp; omega) | omega)) (by first | (simp; done) | (simp; omega) | omega), cell_ne (cell_ne (cell_ne (cell_step (cell_stepD Yy1 b14) b15) (by first | (simp; done) | (simp; omega) | omega)) (by first | (simp; done) | (simp; omega) | omega)) (by first | (simp; done) | (simp; omega) | omega), cell_ne (cell_ne (cell_ne (cell_step (cell_stepD Yy2 b14) b15) (by first | (simp; done) | (simp; omega) | omega)) (by first | (simp; done) | (simp; omega) | omega)) (by first | (simp; done) | (simp; omega) | omega), cell_ne (cell_ne (cell_ne (cell_step (cell_stepD Yqb0 b14) b15) (by first | (simp; done) | (simp; omega) | omega)) (by first | (simp; done) | (simp; omega) | omega)) (by first | (simp; done) | (simp; omega) | omega), cell_ne (cell_ne (cell_ne (cell_step (cell_stepD Yqb1 b14) b15) (by first | (simp; done) | (simp; omega) | omega)) (by first | (simp; done) | (simp; omega) | omega)) (by first | (simp; done) | (simp; omega) | omega), cell_ne (cell_ne (cell_ne (cell_step (cell_stepD Ysb0 b14) b15) (by first | (simp; done) | (simp; omega) | omega)) (by first | (simp; done) | (simp; omega) | omega)) (by first | (simp; done) | (simp; omega) | omega), cell_ne (cell_ne (cell_ne (cell_step (cell_stepD Ysb1 b14) b15) (by first | (simp; done) | (simp; omega) | omega)) (by first | (simp; done) | (simp; omega) | omega)) (by first | (simp; done) | (simp; omega) | omega), cell_ne (cell_ne (cell_ne (cell_step (cell_stepD Ytb0 b14) b15) (by first | (simp; done) | (simp; omega) | omega)) (by first | (simp; done) | (simp; omega) | omega)) (by first | (simp; done) | (simp; omega) | omega), cell_ne (cell_ne (cell_ne (cell_step (cell_stepD Ytb1 b14) b15) (by first | (simp; done) | (simp; omega) | omega)) (by first | (simp; done) | (simp; omega) | omega)) (by first | (simp; done) | (simp; omega) | omega)⟩))
          (first | (go_at_call 121; refine (l02Mul_out b cb ds b2 cb2 es D _ (HB.out.below (B.out.drew)) (HB2.out.below (B.out.drew)) (by omega) (by omega) HD.out HE.out HDD.out).mono ?_; rintro e W14 ⟨p5, c5, rfl, hO5, b14⟩; have s14 := b14.size; (try simp at s14)) | (go_at_call 107; refine (HL.out _ p3 c3 p5 c5 ((O3.out.below (Below.refl _ _).drew).below b14).ints hO5.ints).mono ?_; rintro e W15 ⟨p6, c6, p7, c7, rfl, hO, b15⟩; have s15 := b15.size; (try simp at s15); have Rr := (box_step (box_step (box_drew Rr) b14) b15); have Yr0 := Rr.cell 0 rfl; have Fr0 := Rr.frozen 0; have Yr1 := Rr.cell 1 rfl; have Fr1 := Rr.frozen 1; have Yr2 := Rr.cell 2 rfl; have Fr2 := Rr.frozen 2; have Lr := Rr.lt))
        have sb14 := b14.size
        try simp at sb14
        have sb15 := b15.size
        have O1 := Lib.hid (((O1.out.below (Below.refl _ _).drew).below b14).below b15)
        have O2 := Lib.hid (((O2.out.below (Below.refl _ _).drew).below b14).below b15)
        have O3 := Lib.hid (((O3.out.below (Below.refl _ _).drew).below b14).below b15)
        have O5 := Lib.hid ((hO5.below b15))
        clear hO5
        have O := Lib.hid (hO)
        clear hO
        have B := Lib.hid (bstep (bstepD B.out b14) b15)
        clear b14 b15
        go_wp2
        refine bodyPost_ret (v := .agg #[.bool R.neg, .slice p6 R.num.length c6, .slice p7 R.den.length c7]) (by simp [results, Try.results124, go_sem, Yr0, Yr1, Yr2, Lr]) rfl ⟨p6, c6, p7, c7, rfl, ratF_end (by first | omega | (simp; done) | (simp; omega)) (by first | omega | (simp; done) | (simp; omega)) O.out B.out _ _ _⟩

set_option maxHeartbeats 4000000 in
set_option maxRecDepth 100000 in
include ha hn hb hm ha2 hn2 hb2 hm2 in
theorem l04Add_e (h1 : ratOkB n xs ds = true) (h2 : ratOkB m ys es = true) (k1 : val ds = 1) (k2 : val es ≠ 1) : Calls Try.prog 124 #[.agg #[.bool n, .slice a xs.length ca, .slice b ds.length cb], .agg #[.bool m, .slice a2 ys.length ca2, .slice b2 es.length cb2]] w (RatRetS w (ratAddP n xs ds m ys es)) := by
  have hlx := rok_lx h1
  have hld := rok_ld h1
  have hly := rok_lx h2
  have hle := rok_ld h2
  have HX := Lib.hid (rok_rx h1)
  have HD := Lib.hid (rok_rd h1)
  have HY := Lib.hid (rok_rx h2)
  have HE := Lib.hid (rok_rd h2)
  have HDG := Lib.hid (ratOk_den h1)
  have HEG := Lib.hid (ratOk_den h2)
  have HXG := Lib.hid (ratOk_num h1)
  have HYG := Lib.hid (ratOk_num h2)
  have hd1 : decide (val ds = 1) = true := decide_eq_true k1
  have he1 : decide (val es = 1) = false := decide_eq_false k2
  clear k1 k2
  obtain ⟨N, hN⟩ : ∃ N : Nat, val xs * val es = N := ⟨_, rfl⟩
  have hlN : (digs N).length ≤ 48 := by rw [← hN]; exact digs_mul_len (rok_rx h1) (rok_rd h2) (by omega) (by omega)
  obtain ⟨M, hM⟩ : ∃ N : Nat, val ys * val ds = N := ⟨_, rfl⟩
  have hlM : (digs M).length ≤ 48 := by rw [← hM]; exact digs_mul_len (rok_rx h2) (rok_rd h1) (by omega) (by omega)
  obtain ⟨D, hD⟩ : ∃ N : Nat, val ds * val es = N := ⟨_, rfl⟩
  have hlD : (digs D).length ≤ 48 := by rw [← hD]; exact digs_mul_len (rok_rd h1) (rok_rd h2) (by omega) (by omega)
  have HN := Lib.hid hN
  have HM := Lib.hid hM
  have HDD := Lib.hid hD
  obtain ⟨z, hz⟩ : ∃ z, toI (mkBI n (digs N)).neg (digs N) + toI (mkBI m (digs M)).neg (digs M) = z := ⟨_, rfl⟩
  have HZ := Lib.hid hz
  have HF : Hid ((digs z.natAbs).length ≤ 60) := by
    have := natAbs_add_lt (x := toI (mkBI n (digs N)).neg (digs N)) (y := toI (mkBI m (digs M)).neg (digs M)) (k := 48) (by rw [toI_natAbs, val_digs]; exact hlN) (by rw [toI_natAbs, val_digs]; exact hlM)
    rw [hz] at this
    unfold Hid; omega
  obtain ⟨R, hR⟩ : ∃ R, ratAddP n xs ds m ys es = R := ⟨_, rfl⟩
  have HL : Hid (∀ (W : World) (p : Option Addr) (c : Nat) (q : Option Addr) (d : Nat), IntsAt W p c (ofI z).mag → IntsAt W q d (digs D) → Calls Try.prog 107 #[.bool (ofI z).neg, .slice p (ofI z).mag.length c, .slice q (digs D).length d] W (RatRetS W R)) := by
    intro W p c q d i1 i2
    have h := l04Low_any (ofI z).neg p c (ofI z).mag q d (digs D) W i1 (by have := HF.out; show (digs z.natAbs).length ≤ _; omega) i2 (by omega) (digs_rng _) (digs_rng _)
    have e : mkRA (ofI z).neg (val (ofI z).mag) (val (digs D)) = R := by
      rw [← hR, ratAddP_yes h1 h2, hD, toI_scale, toI_scale, hN, hM, ← toI_mk, ← toI_mk, hz]
      show mkRA (decide _) (val (digs _)) (val (digs D)) = mkRAz z D
      rw [val_digs, val_digs]
      rfl
    rw [e] at h
    exact h
  rw [hR]
  clear hR hz hN hM hD h1 h2
  have HA := Lib.hid ha
  have HB := Lib.hid hb
  have HA2 := Lib.hid ha2
  have HB2 := Lib.hid hb2
  clear ha hb ha2 hb2
  go_enter Try.func124, Try.ntmps124
  go_wp2_with fail
  refine (l04One_l b cb ds _ (HB.out.below (ba3 _ _ _ _)) HDG.out).mono ?_
  rintro e W16 ⟨rfl, b16⟩
  have Rx := bx3_0 b16
  have Ry := bx3_1 b16
  have Rr := bx3_2 b16
  have B := Lib.hid (bstep (ba3 _ _ _ _) b16)
  have sb16 := b16.size
  try simp at sb16
  have Yx0 := Rx.cell 0 rfl
  have Yx1 := Rx.cell 1 rfl
  have Yx2 := Rx.cell 2 rfl
  have Lx := Rx.lt
  have Yy0 := Ry.cell 0 rfl
  have Yy1 := Ry.cell 1 rfl
  have Yy2 := Ry.cell 2 rfl
  have Ly := Ry.lt
  have Yr0 := Rr.cell 0 rfl
  have Yr1 := Rr.cell 1 rfl
  have Yr2 := Rr.cell 2 rfl
  have Lr := Rr.lt
  have Fr0 := Rr.frozen 0
  have Fr1 := Rr.frozen 1
  have Fr2 := Rr.frozen 2
  clear b16
  go_wp2_with fail
  refine (l04One_l b2 cb2 es _ (HB2.out.below B.out) HEG.out).mono ?_
  rintro e W17 ⟨rfl, b17⟩
  clear Yx0 Yx1 Yx2 Lx Yy0 Yy1 Yy2 Ly Yr0 Yr1 Yr2 Lr Fr0 Fr1 Fr2
  have Rx := box_step Rx b17
  have Ry := box_step Ry b17
  have Rr := box_step Rr b17
  have B := Lib.hid (bstep B.out b17)
  have sb17 := b17.size
  have Yx0 := Rx.cell 0 rfl
  have Yx1 := Rx.cell 1 rfl
  have Yx2 := Rx.cell 2 rfl
  have Lx := Rx.lt
  have Yy0 := Ry.cell 0 rfl
  have Yy1 := Ry.cell 1 rfl
  have Yy2 := Ry.cell 2 rfl
  have Ly := Ry.lt
  have Yr0 := Rr.cell 0 rfl
  have Yr1 := Rr.cell 1 rfl
  have Yr2 := Rr.cell 2 rfl
  have Lr := Rr.lt
  have Fr0 := Rr.frozen 0
  have Fr1 := Rr.frozen 1
  have Fr2 := Rr.frozen 2
  clear b17
  have BB := B.out
  go_upto_region 4 with fail
  go_cut [6] (fun s6 wx => ∃ (R : Nat) (p1 : Option Addr) (c1 : Nat), s6 = .pointer (some ⟨R, 0, none⟩) ∧ W17.heap.size ≤ R ∧ Box wx R #[.bool (mkBI n (digs N)).neg, .slice p1 (digs N).length c1] ∧ OwnI wx W17.heap.size wx.heap.size (.slice p1 (digs N).length c1) (digs N) ∧ Below W17.heap.size W17 wx)
  case first =>
    have TYx0 : W17.cell? ⟨w.heap.size, 0, none⟩ = some (.bool n) := Yx0
    have TYx1 : W17.cell? ⟨w.heap.size, 1, none⟩ = some (.slice a xs.length ca) := Yx1
    have TYx2 : W17.cell? ⟨w.heap.size, 2, none⟩ = some (.slice b ds.length cb) := Yx2
    have TYy0 : W17.cell? ⟨w.heap.size + 1, 0, none⟩ = some (.bool m) := Yy0
    have TYy1 : W17.cell? ⟨w.heap.size + 1, 1, none⟩ = some (.slice a2 ys.length ca2) := Yy1
    have TYy2 : W17.cell? ⟨w.heap.size + 1, 2, none⟩ = some (.slice b2 es.length cb2) := Yy2
    have TYr0 : W17.cell? ⟨w.heap.size + 2, 0, none⟩ = some (.bool false) := Yr0
    have TYr1 : W17.cell? ⟨w.heap.size + 2, 1, none⟩ = some (.slice none 0 0) := Yr1
    have TYr2 : W17.cell? ⟨w.heap.size + 2, 2, none⟩ = some (.slice none 0 0) := Yr2
    go_region_held3 (fun w' => w'.cell? ⟨w.heap.size, 0, none⟩ = some (.bool n) ∧ w'.cell? ⟨w.heap.size, 1, none⟩ = some (.slice a xs.length ca) ∧ w'.cell? ⟨w.heap.size, 2, none⟩ = some (.slice b ds.length cb) ∧ w'.cell? ⟨w.heap.size + 1, 0, none⟩ = some (.bool m) ∧ w'.cell? ⟨w.heap.size + 1, 1, none⟩ = some (.slice a2 ys.length ca2) ∧ w'.cell? ⟨w.heap.size + 1, 2, none⟩ = some (.slice b2 es.length cb2) ∧ w'.cell? ⟨w.heap.size + 2, 0, none⟩ = some (.bool false) ∧ w'.cell? ⟨w.heap.size + 2, 1, none⟩ = some (.slice none 0 0) ∧ w'.cell? ⟨w.heap.size + 2, 2, none⟩ = some (.slice none 0 0))
      ((refine ⟨?_, ?_, ?_, ?_, ?_, ?_, ?_, ?_, ?_⟩ <;> (repeat first | with_reducible assumption | with_reducible refine cell_low ?_ (by first | omega | (simp; done) | (simp; omega)) | with_reducible refine cell_step ?_ (ba1 _ _) | with_reducible refine cell_step ?_ (by assumption) | with_reducible refine cell_dr ?_)))
      (first | (go_at_call 121; refine (l02Mul_out a ca xs b2 cb2 es N _ (HA.out.below (by (repeat first | with_reducible assumption | with_reducible exact Below.refl _ _ | with_reducible refine bstep ?_ (ba1 _ _) | with_reducible refine bstep ?_ (by assumption) | with_reducible refine Below.drew ?_))) (HB2.out.below (by (repeat first | with_reducible assumption | with_reducible exact Below.refl _ _ | with_reducible refine bstep ?_ (ba1 _ _) | with_reducible refine bstep ?_ (by assumption) | with_reducible refine Below.drew ?_))) (by omega) (by omega) HX.out HE.out HN.out).mono ?_; rintro e W18 ⟨p, c, rfl, hU1, b18⟩; have s18 := b18.size; (try simp at s18); (first | have RZ := box_step RZ b18 | have RZ : Box W18 W17.heap.size _ := bx1_0 (w := W17.drew) b18 | skip)) | (go_at_call 126; refine (l03Make_dig n N p c _ (hU1.below (by (repeat first | with_reducible assumption | with_reducible exact Below.refl _ _ | with_reducible refine bstep ?_ (ba1 _ _) | with_reducible refine bstep ?_ (by assumption) | with_reducible refine Below.drew ?_))).ints (by omega)).mono ?_; rintro e W19 ⟨p1, c1, rfl, hO1, b19⟩; have s19 := b19.size; (try simp at s19); (first | have RZ := box_step RZ b19 | have RZ : Box W19 W18.heap.size _ := bx1_0 b19 | skip); (try (have Z0 : W19.cell? ⟨_, 0, none⟩ = some (.bool false) := RZ.cell 0 rfl; have FZ0 := RZ.frozen 0; have Z1 : W19.cell? ⟨_, 1, none⟩ = some (.slice none 0 0) := RZ.cell 1 rfl; have FZ1 := RZ.frozen 1; have LZ := RZ.lt))))
    all_goals (go_wp2_with fail; go_meet; (first | exact ⟨_, _, _, rfl, (by first | omega | (simp; done) | (simp; omega)), bx1_0 (Below.refl _ _), (hO1.below (ba1 _ _)).mono (by first | omega | (simp; done) | (simp; omega)) (by first | omega | (simp; done) | (simp; omega)), (by (repeat first | with_reducible assumption | with_reducible exact Below.refl _ _ | with_reducible refine bstep ?_ (ba1 _ _) | with_reducible refine bstep ?_ (by assumption) | with_reducible refine Below.drew ?_))⟩ | exact ⟨_, _, _, rfl, (by first | omega | (simp; done) | (simp; omega)), box_as (box_put (k := 1) (box_put (k := 0) RZ)) rfl, ((hO1.put (k := 0) (by first | omega | (simp; done) | (simp; omega))).put (k := 1) (by first | omega | (simp; done) | (simp; omega))).mono (by first | omega | (simp; done) | (simp; omega)) (by first | omega | (simp; done) | (simp; omega)), (below_put (k := 1) (below_put (k := 0) (by (repeat first | with_reducible assumption | with_reducible exact Below.refl _ _ | with_reducible refine bstep ?_ (ba1 _ _) | with_reducible refine bstep ?_ (by assumption) | with_reducible refine Below.drew ?_)) (by first | omega | (simp; done) | (simp; omega))) (by first | omega | (simp; done) | (simp; omega)))⟩))
  case rest =>
    obtain ⟨Rq, p1, c1, rfl, hRq, Rnq, hO1, b20⟩ := hcut
    obtain ⟨W20, hW20⟩ : ∃ W', W' = wc := ⟨_, rfl⟩
    subst hW20
    clear BB
    clear Yx0 Yx1 Yx2 Lx Yy0 Yy1 Yy2 Ly Yr0 Yr1 Yr2 Lr Fr0 Fr1 Fr2
    have Rx := box_step Rx b20
    have Ry := box_step Ry b20
    have Rr := box_step Rr b20
    have B := Lib.hid (bstep B.out b20)
    have s20 := b20.size
    have O1 := Lib.hid hO1
    clear hO1
    have Rqb := Rnq
    have Yx0 := Rx.cell 0 rfl
    have Yx1 := Rx.cell 1 rfl
    have Yx2 := Rx.cell 2 rfl
    have Lx := Rx.lt
    have Yy0 := Ry.cell 0 rfl
    have Yy1 := Ry.cell 1 rfl
    have Yy2 := Ry.cell 2 rfl
    have Ly := Ry.lt
    have Yr0 := Rr.cell 0 rfl
    have Yr1 := Rr.cell 1 rfl
    have Yr2 := Rr.cell 2 rfl
    have Lr := Rr.lt
    have Fr0 := Rr.frozen 0
    have Fr1 := Rr.frozen 1
    have Fr2 := Rr.frozen 2
    have Yqb0 := Rqb.cell 0 rfl
    have Yqb1 := Rqb.cell 1 rfl
    have Lqb := Rqb.lt
    clear b20 Rnq
    have BB := B.out
    go_upto_region 5 with fail
    go_cut [7] (fun s7 wx => ∃ (R : Nat) (p2 : Option Addr) (c2 : Nat), s7 = .pointer (some ⟨R, 0, none⟩) ∧ W20.heap.size ≤ R ∧ Box wx R #[.bool (mkBI m (digs M)).neg, .slice p2 (digs M).length c2] ∧ OwnI wx W20.heap.size wx.heap.size (.slice p2 (digs M).length c2) (digs M) ∧ Below W20.heap.size W20 wx)
    case first =>
      have TYx0 : W20.cell? ⟨w.heap.size, 0, none⟩ = some (.bool n) := Yx0
      have TYx1 : W20.cell? ⟨w.heap.size, 1, none⟩ = some (.slice a xs.length ca) := Yx1
      have TYx2 : W20.cell? ⟨w.heap.size, 2, none⟩ = some (.slice b ds.length cb) := Yx2
      have TYy0 : W20.cell? ⟨w.heap.size + 1, 0, none⟩ = some (.bool m) := Yy0
      have TYy1 : W20.cell? ⟨w.heap.size + 1, 1, none⟩ = some (.slice a2 ys.length ca2) := Yy1
      have TYy2 : W20.cell? ⟨w.heap.size + 1, 2, none⟩ = some (.slice b2 es.length cb2) := Yy2
      have TYr0 : W20.cell? ⟨w.heap.size + 2, 0, none⟩ = some (.bool false) := Yr0
      have TYr1 : W20.cell? ⟨w.heap.size + 2, 1, none⟩ = some (.slice none 0 0) := Yr1
      have TYr2 : W20.cell? ⟨w.heap.size + 2, 2, none⟩ = some (.slice none 0 0) := Yr2
      have TYqb0 : W20.cell? ⟨Rq, 0, none⟩ = some (.bool (mkBI n (digs N)).neg) := Yqb0
      have TYqb1 : W20.cell? ⟨Rq, 1, none⟩ = some (.slice p1 (digs N).length c1) := Yqb1
      go_region_held3 (fun w' => w'.cell? ⟨w.heap.size, 0, none⟩ = some (.bool n) ∧ w'.cell? ⟨w.heap.size, 1, none⟩ = some (.slice a xs.length ca) ∧ w'.cell? ⟨w.heap.size, 2, none⟩ = some (.slice b ds.length cb) ∧ w'.cell? ⟨w.heap.size + 1, 0, none⟩ = some (.bool m) ∧ w'.cell? ⟨w.heap.size + 1, 1, none⟩ = some (.slice a2 ys.length ca2) ∧ w'.cell? ⟨w.heap.size + 1, 2, none⟩ = some (.slice b2 es.length cb2) ∧ w'.cell? ⟨w.heap.size + 2, 0, none⟩ = some (.bool false) ∧ w'.cell? ⟨w.heap.size + 2, 1, none⟩ = some (.slice none 0 0) ∧ w'.cell? ⟨w.heap.size + 2, 2, none⟩ = some (.slice none 0 0) ∧ w'.cell? ⟨Rq, 0, none⟩ = some (.bool (mkBI n (digs N)).neg) ∧ w'.cell? ⟨Rq, 1, none⟩ = some (.slice p1 (digs N).length c1))
        ((refine ⟨?_, ?_, ?_, ?_, ?_, ?_, ?_, ?_, ?_, ?_, ?_⟩ <;> (repeat first | with_reducible assumption | with_reducible refine cell_low ?_ (by first | omega | (simp; done) | (simp; omega)) | with_reducible refine cell_step ?_ (ba1 _ _) | with_reducible refine cell_step ?_ (by assumption) | with_reducible refine cell_dr ?_)))
        (first | (go_at_call 121; refine (l02Mul_out a2 ca2 ys b cb ds M _ (HA2.out.below (by (repeat first | with_reducible assumption | with_reducible exact Below.refl _ _ | with_reducible refine bstep ?_ (ba1 _ _) | with_reducible refine bstep ?_ (by assumption) | with_reducible refine Below.drew ?_))) (HB.out.below (by (repeat first | with_reducible assumption | with_reducible exact Below.refl _ _ | with_reducible refine bstep ?_ (ba1 _ _) | with_reducible refine bstep ?_ (by assumption) | with_reducible refine Below.drew ?_))) (by omega) (by omega) HY.out HD.out HM.out).mono ?_; rintro e W21 ⟨p, c, rfl, hU2, b21⟩; have s21 := b21.size; (try simp at s21); (first | have RZ := box_step RZ b21 | have RZ : Box W21 W20.heap.size _ := bx1_0 (w := W20.drew) b21 | skip)) | (go_at_call 126; refine (l03Make_dig m M p c _ (hU2.below (by (repeat first | with_reducible assumption | with_reducible exact Below.refl _ _ | with_reducible refine bstep ?_ (ba1 _ _) | with_reducible refine bstep ?_ (by assumption) | with_reducible refine Below.drew ?_))).ints (by omega)).mono ?_; rintro e W22 ⟨p2, c2, rfl, hO2, b22⟩; have s22 := b22.size; (try simp at s22); (first | have RZ := box_step RZ b22 | have RZ : Box W22 W21.heap.size _ := bx1_0 b22 | skip); (try (have Z0 : W22.cell? ⟨_, 0, none⟩ = some (.bool false) := RZ.cell 0 rfl; have FZ0 := RZ.frozen 0; have Z1 : W22.cell? ⟨_, 1, none⟩ = some (.slice none 0 0) := RZ.cell 1 rfl; have FZ1 := RZ.frozen 1; have LZ := RZ.lt))))
      all_goals (go_wp2_with fail; go_meet; (first | exact ⟨_, _, _, rfl, (by first | omega | (simp; done) | (simp; omega)), bx1_0 (Below.refl _ _), (hO2.below (ba1 _ _)).mono (by first | omega | (simp; done) | (simp; omega)) (by first | omega | (simp; done) | (simp; omega)), (by (repeat first | with_reducible assumption | with_reducible exact Below.refl _ _ | with_reducible refine bstep ?_ (ba1 _ _) | with_reducible refine bstep ?_ (by assumption) | with_reducible refine Below.drew ?_))⟩ | exact ⟨_, _, _, rfl, (by first | omega | (simp; done) | (simp; omega)), box_as (box_put (k := 1) (box_put (k := 0) RZ)) rfl, ((hO2.put (k := 0) (by first | omega | (simp; done) | (simp; omega))).put (k := 1) (by first | omega | (simp; done) | (simp; omega))).mono (by first | omega | (simp; done) | (simp; omega)) (by first | omega | (simp; done) | (simp; omega)), (below_put (k := 1) (below_put (k := 0) (by (repeat first | with_reducible assumption | with_reducible exact Below.refl _ _ | with_reducible refine bstep ?_ (ba1 _ _) | with_reducible refine bstep ?_ (by assumption) | with_reducible refine Below.drew ?_)) (by first | omega | (simp; done) | (simp; omega))) (by first | omega | (simp; done) | (simp; omega)))⟩))
    case rest =>
      obtain ⟨Rs, p2, c2, rfl, hRs, Rns, hO2, b23⟩ := hcut
      obtain ⟨W23, hW23⟩ : ∃ W', W' = wc := ⟨_, rfl⟩
      subst hW23
      clear BB
      clear Yx0 Yx1 Yx2 Lx Yy0 Yy1 Yy2 Ly Yr0 Yr1 Yr2 Lr Fr0 Fr1 Fr2 Yqb0 Yqb1 Lqb
      have Rx := box_step Rx b23
      have Ry := box_step Ry b23
      have Rr := box_step Rr b23
      have Rqb := box_step Rqb b23
      have B := Lib.hid (bstep B.out b23)
      have O1 := Lib.hid (O1.out.below b23)
      have s23 := b23.size
      have O2 := Lib.hid hO2
      clear hO2
      have Rsb := Rns
      have Yx0 := Rx.cell 0 rfl
      have Yx1 := Rx.cell 1 rfl
      have Yx2 := Rx.cell 2 rfl
      have Lx := Rx.lt
      have Yy0 := Ry.cell 0 rfl
      have Yy1 := Ry.cell 1 rfl
      have Yy2 := Ry.cell 2 rfl
      have Ly := Ry.lt
      have Yr0 := Rr.cell 0 rfl
      have Yr1 := Rr.cell 1 rfl
      have Yr2 := Rr.cell 2 rfl
      have Lr := Rr.lt
      have Fr0 := Rr.frozen 0
      have Fr1 := Rr.frozen 1
      have Fr2 := Rr.frozen 2
      have Yqb0 := Rqb.cell 0 rfl
      have Yqb1 := Rqb.cell 1 rfl
      have Lqb := Rqb.lt
      have Ysb0 := Rsb.cell 0 rfl
      have Ysb1 := Rsb.cell 1 rfl
      have Lsb := Rsb.lt
      clear b23 Rns
      have BB := B.out
      go_upto_region 6 with fail
      go_cut [8] (fun s8 wx => ∃ (R : Nat) (p3 : Option Addr) (c3 : Nat), s8 = .pointer (some ⟨R, 0, none⟩) ∧ W23.heap.size ≤ R ∧ Box wx R #[.bool (ofI z).neg, .slice p3 (ofI z).mag.length c3] ∧ OwnI wx W23.heap.size wx.heap.size (.slice p3 ((ofI z).mag).length c3) ((ofI z).mag) ∧ Below W23.heap.size W23 wx)
      case first =>
        go_wp2_with fail
        refine (l03Add_of (mkBI n (digs N)).neg p1 c1 (digs N) (mkBI m (digs M)).neg p2 c2 (digs M) z _ (O1.out.below (by (repeat first | with_reducible assumption | with_reducible exact Below.refl _ _ | with_reducible refine bstep ?_ (ba1 _ _) | with_reducible refine bstep ?_ (by assumption) | with_reducible refine Below.drew ?_))).ints (O2.out.below (by (repeat first | with_reducible assumption | with_reducible exact Below.refl _ _ | with_reducible refine bstep ?_ (ba1 _ _) | with_reducible refine bstep ?_ (by assumption) | with_reducible refine Below.drew ?_))).ints (by omega) (by omega) (by rw [val_digs]) (by rw [val_digs]) HZ.out HF.out).mono ?_; rintro e W24 ⟨p3, c3, rfl, hO3, b24⟩; have s24 := b24.size; (try simp at s24)
        all_goals (go_wp2_with fail; go_meet; (first | exact ⟨_, _, _, rfl, (by first | omega | (simp; done) | (simp; omega)), bx1_0 (Below.refl _ _), (hO3.below (ba1 _ _)).mono (by first | omega | (simp; done) | (simp; omega)) (by first | omega | (simp; done) | (simp; omega)), (by (repeat first | with_reducible assumption | with_reducible exact Below.refl _ _ | with_reducible refine bstep ?_ (ba1 _ _) | with_reducible refine bstep ?_ (by assumption) | with_reducible refine Below.drew ?_))⟩ | exact ⟨_, _, _, rfl, (by first | omega | (simp; done) | (simp; omega)), box_as (box_put (k := 1) (box_put (k := 0) RZ)) rfl, ((hO3.put (k := 0) (by first | omega | (simp; done) | (simp; omega))).put (k := 1) (by first | omega | (simp; done) | (simp; omega))).mono (by first | omega | (simp; done) | (simp; omega)) (by first | omega | (simp; done) | (simp; omega)), (below_put (k := 1) (below_put (k := 0) (by (repeat first | with_reducible assumption | with_reducible exact Below.refl _ _ | with_reducible refine bstep ?_ (ba1 _ _) | with_reducible refine bstep ?_ (by assumption) | with_reducible refine Below.drew ?_)) (by first | omega | (simp; done) | (simp; omega))) (by first | omega | (simp; done) | (simp; omega)))⟩))
      case rest =>
        obtain ⟨Rt, p3, c3, rfl, hRt, Rnt, hO3, b25⟩ := hcut
        obtain ⟨W25, hW25⟩ : ∃ W', W' = wc := ⟨_, rfl⟩
        subst hW25
        clear BB
        clear Yx0 Yx1 Yx2 Lx Yy0 Yy1 Yy2 Ly Yr0 Yr1 Yr2 Lr Fr0 Fr1 Fr2 Yqb0 Yqb1 Lqb Ysb0 Ysb1 Lsb
        have Rx := box_step Rx b25
        have Ry := box_step Ry b25
        have Rr := box_step Rr b25
        have Rqb := box_step Rqb b25
        have Rsb := box_step Rsb b25
        have B := Lib.hid (bstep B.out b25)
        have O1 := Lib.hid (O1.out.below b25)
        have O2 := Lib.hid (O2.out.below b25)
        have s25 := b25.size
        have O3 := Lib.hid hO3
        clear hO3
        have Rtb := Rnt
        have Yx0 := Rx.cell 0 rfl
        have Yx1 := Rx.cell 1 rfl
        have Yx2 := Rx.cell 2 rfl
        have Lx := Rx.lt
        have Yy0 := Ry.cell 0 rfl
        have Yy1 := Ry.cell 1 rfl
        have Yy2 := Ry.cell 2 rfl
        have Ly := Ry.lt
        have Yr0 := Rr.cell 0 rfl
        have Yr1 := Rr.cell 1 rfl
        have Yr2 := Rr.cell 2 rfl
        have Lr := Rr.lt
        have Fr0 := Rr.frozen 0
        have Fr1 := Rr.frozen 1
        have Fr2 := Rr.frozen 2
        have Yqb0 := Rqb.cell 0 rfl
        have Yqb1 := Rqb.cell 1 rfl
        have Lqb := Rqb.lt
        have Ysb0 := Rsb.cell 0 rfl
        have Ysb1 := Rsb.cell 1 rfl
        have Lsb := Rsb.lt
        have Ytb0 := Rtb.cell 0 rfl
        have Ytb1 := Rtb.cell 1 rfl
        have Ltb := Rtb.lt
        clear b25 Rnt
        go_wp2_with fail
        go_region_held3 (fun w' => w'.cell? ⟨w.heap.size, 0, none⟩ = some (.bool n) ∧ w'.cell? ⟨w.heap.size, 1, none⟩ = some (.slice a xs.length ca) ∧ w'.cell? ⟨w.heap.size, 2, none⟩ = some (.slice b ds.length cb) ∧ w'.cell? ⟨w.heap.size + 1, 0, none⟩ = some (.bool m) ∧ w'.cell? ⟨w.heap.size + 1, 1, none⟩ = some (.slice a2 ys.length ca2) ∧ w'.cell? ⟨w.heap.size + 1, 2, none⟩ = some (.slice b2 es.length cb2) ∧ w'.cell? ⟨Rq, 0, none⟩ = some (.bool (mkBI n (digs N)).neg) ∧ w'.cell? ⟨Rq, 1, none⟩ = some (.slice p1 (digs N).length c1) ∧ w'.cell? ⟨Rs, 0, none⟩ = some (.bool (mkBI m (digs M)).neg) ∧ w'.cell? ⟨Rs, 1, none⟩ = some (.slice p2 (digs M).length c2) ∧ w'.cell? ⟨Rt, 0, none⟩ = some (.bool (ofI z).neg) ∧ w'.cell? ⟨Rt, 1, none⟩ = some (.slice p3 (ofI z).mag.length c3))
          ((first | exact ⟨Yx0, Yx1, Yx2, Yy0, Yy1, Yy2, Yqb0, Yqb1, Ysb0, Ysb1, Ytb0, Ytb1⟩ | exact ⟨cell_stepD Yx0 b26, cell_stepD Yx1 b26, cell_stepD Yx2 b26, cell_stepD Yy0 b26, cell_stepD Yy1 b26, cell_stepD Yy2 b26, cell_stepD Yqb0 b26, cell_stepD Yqb1 b26, cell_stepD Ysb0 b26, cell_stepD Ysb1 b26, cell_stepD Ytb0 b26, cell_stepD Ytb1 b26⟩ | exact ⟨cell_step (cell_stepD Yx0 b26) b27, cell_step (cell_stepD Yx1 b26) b27, cell_step (cell_stepD Yx2 b26) b27, cell_step (cell_stepD Yy0 b26) b27, cell_step (cell_stepD Yy1 b26) b27, cell_step (cell_stepD Yy2 b26) b27, cell_step (cell_stepD Yqb0 b26) b27, cell_step (cell_stepD Yqb1 b26) b27, cell_step (cell_stepD Ysb0 b26) b27, cell_step (cell_stepD Ysb1 b26) b27, cell_step (cell_stepD Ytb0 b26) b27, cell_step (cell_stepD Ytb1 b26) b27⟩ | exact ⟨cell_ne (cell_ne (cell_ne (cell_step (cell_stepD Yx0 b26) b27) (by first | (simp; done) | (simp; omega) | omega)) (by first | (simp; done) | (simp; omega) | omega)) (by first | (simp; done) | (simp; omega) | omega), cell_ne (cell_ne (cell_ne (cell_step (cell_stepD Yx1 b26) b27) (by first | (simp; done) | (simp; omega) | omega)) (by first | (simp; done) | (simp; omega) | omega)) (by first | (simp; done) | (simp; omega) | omega), cell_ne (cell_ne (cell_ne (cell_step (cell_stepD Yx2 b26) b27) (by first | (simp; done) | (simp; omega) | omega)) (by first | (simp; done) | (simp; omega) | omega)) (by first | (simp; done) | (simp; omega) | omega), cell_ne (cell_ne (cell_ne (cell_step (cell_stepD Yy0 b26) b27) (by first | (simp; done) | (simp; omega) | omega)) (by first | (simp; done) | (simp; omega) | omega)) (by first | (simp; done) | (simp; omega) | omega), cell_ne (cell_ne (cell_ne (cell_step (cell_stepD Yy1 b26) b27) (by first | (simp; done) | (simp; omega) | omega)) (by first | (simp; done) | (simp; omega) | omega)) (by first | (simp; done) | (simp; omega) | omega), cell_ne (cell_ne (cell_ne (cell_step (cell_stepD Yy2 b26) b27) (by first | (simp; done) | (simp; omega) | omega)) (by first | (simp; done) | (simp; omega) | omega)) (by first | (simp; done) | (simp; omega) | omega), cell_ne (cell_ne (cell_ne (cell_step (cell_stepD Yqb0 b26) b27) (by first | (simp; done) | (simp; omega) | omega)) (by first | (simp; done) | (simp; omega) | omega)) (by first | (simp; done) | (simp; omega) | omega), cell_ne (cell_ne (cell_ne (cell_step (cell_stepD Yqb1 b26) b27) (by first | (simp; done) | (simp; omega) | omega)) (by first | (simp; done) | (simp; omega) | omega)) (by first | (simp; done) | (simp; omega) | omega), cell_ne (cell_ne (cell_ne (cell_step (cell_stepD Ysb0 b26) b27) (by first | (simp; done) | (simp; omega) | omega)) (by first | (simp; done) | (simp; omega) | omega)) (by first | (simp; done) | (simp; omega) | omega), cell_ne (cell_ne (cell_ne (cell_step (cell_stepD Ysb1 b26) b27) (by first | (simp; done) | (simp; omega) | omega)) (by first | (simp; done) | (simp; omega) | omega)) (by first | (simp; done) | (simp; omega) | omega), cell_ne (cell_ne (cell_ne (cell_step (cell_stepD Ytb0 b26) b27) (by first | (simp; done) | (simp; omega) | omega)) (by first | (simp; done) | (simp; omega) | omega)) (by first | (simp; done) | (simp; omega) | omega), cell_ne (cell_ne (cell_ne (cell_step (cell_stepD Ytb1 b26) b27) (by first | (simp; done) | (simp; omega) | omega)) (by first | (simp; done) | (simp; omega) | omega)) (by first | (simp; done) | (simp; omega) | omega)⟩))
          (first | (go_at_call 121; refine (l02Mul_out b cb ds b2 cb2 es D _ (HB.out.below (B.out.drew)) (HB2.out.below (B.out.drew)) (by omega) (by omega) HD.out HE.out HDD.out).mono ?_; rintro e W26 ⟨p5, c5, rfl, hO5, b26⟩; have s26 := b26.size; (try simp at s26)) | (go_at_call 107; refine (HL.out _ p3 c3 p5 c5 ((O3.out.below (Below.refl _ _).drew).below b26).ints hO5.ints).mono ?_; rintro e W27 ⟨p6, c6, p7, c7, rfl, hO, b27⟩; have s27 := b27.size; (try simp at s27); have Rr := (box_step (box_step (box_drew Rr) b26) b27); have Yr0 := Rr.cell 0 rfl; have Fr0 := Rr.frozen 0; have Yr1 := Rr.cell 1 rfl; have Fr1 := Rr.frozen 1; have Yr2 := Rr.cell 2 rfl; have Fr2 := Rr.frozen 2; have Lr := Rr.lt))
        have sb26 := b26.size
        try simp at sb26
        have sb27 := b27.size
        have O1 := Lib.hid (((O1.out.below (Below.refl _ _).drew).below b26).below b27)
        have O2 := Lib.hid (((O2.out.below (Below.refl _ _).drew).below b26).below b27)
        have O3 := Lib.hid (((O3.out.below (Below.refl _ _).drew).below b26).below b27)
        have O5 := Lib.hid ((hO5.below b27))
        clear hO5
        have O := Lib.hid (hO)
        clear hO
        have B := Lib.hid (bstep (bstepD B.out b26) b27)
        clear b26 b27
        go_wp2
        refine bodyPost_ret (v := .agg #[.bool R.neg, .slice p6 R.num.length c6, .slice p7 R.den.length c7]) (by simp [results, Try.results124, go_sem, Yr0, Yr1, Yr2, Lr]) rfl ⟨p6, c6, p7, c7, rfl, ratF_end (by first | omega | (simp; done) | (simp; omega)) (by first | omega | (simp; done) | (simp; omega)) O.out B.out _ _ _⟩

include ha hn hb hm ha2 hn2 hb2 hm2 in
theorem l04Add_own (h1 : ratOkB n xs ds = true) (h2 : ratOkB m ys es = true) : Calls Try.prog 124 #[.agg #[.bool n, .slice a xs.length ca, .slice b ds.length cb], .agg #[.bool m, .slice a2 ys.length ca2, .slice b2 es.length cb2]] w (RatRetS w (ratAddP n xs ds m ys es)) := by
  by_cases k1 : val ds = 1
  · by_cases k2 : val es = 1
    · exact l04Add_one n a ca xs b cb ds m a2 ca2 ys b2 cb2 es w ha hn hb ha2 hn2 hb2 h1 h2 k1 k2
    · exact l04Add_e n a ca xs b cb ds m a2 ca2 ys b2 cb2 es w ha hn hb hm ha2 hn2 hb2 hm2 h1 h2 k1 k2
  · exact l04Add_d n a ca xs b cb ds m a2 ca2 ys b2 cb2 es w ha hn hb hm ha2 hn2 hb2 hm2 h1 h2 k1

set_option maxHeartbeats 4000000 in
include ha hn hb hm ha2 hn2 hb2 hm2 in
theorem specRatAdd_own : Calls Try.prog 70 #[.agg #[.bool n, .slice a xs.length ca, .slice b ds.length cb], .agg #[.bool m, .slice a2 ys.length ca2, .slice b2 es.length cb2]] w (RatRetS w (ratAddP n xs ds m ys es)) := by
  have HA := Lib.hid ha
  have HB := Lib.hid hb
  have HA2 := Lib.hid ha2
  have HB2 := Lib.hid hb2
  clear ha hb ha2 hb2
  by_cases h1 : ratOkB n xs ds = true
  · by_cases h2 : ratOkB m ys es = true
    · skip
      obtain ⟨R, hR⟩ : ∃ R, ratAddP n xs ds m ys es = R := ⟨_, rfl⟩
      have HL : Hid (∀ W, IntsAt W a ca xs → IntsAt W b cb ds → IntsAt W a2 ca2 ys → IntsAt W b2 cb2 es → Calls Try.prog 124 #[.agg #[.bool n, .slice a xs.length ca, .slice b ds.length cb], .agg #[.bool m, .slice a2 ys.length ca2, .slice b2 es.length cb2]] W (RatRetS W R)) := fun W i1 i2 i3 i4 => hR ▸ l04Add_own n a ca xs b cb ds m a2 ca2 ys b2 cb2 es W i1 hn i2 hm i3 hn2 i4 hm2 h1 h2
      rw [hR]
      clear hR
      go_enter Try.func70, Try.ntmps70
      go_wp2_with fail
      refine (specRatOk_any n a ca xs b cb ds _ (HA.out.below (ba3 _ _ _ _)) hn (HB.out.below (ba3 _ _ _ _)) hm).mono ?_
      rintro e W28 ⟨rfl, b28⟩
      have Rx := bx3_0 b28
      have Ry := bx3_1 b28
      have Rr := bx3_2 b28
      have B := Lib.hid (bstep (ba3 _ _ _ _) b28)
      have sb28 := b28.size
      try simp at sb28
      have Yx0 := Rx.cell 0 rfl
      have Yx1 := Rx.cell 1 rfl
      have Yx2 := Rx.cell 2 rfl
      have Lx := Rx.lt
      have Yy0 := Ry.cell 0 rfl
      have Yy1 := Ry.cell 1 rfl
      have Yy2 := Ry.cell 2 rfl
      have Ly := Ry.lt
      have Yr0 := Rr.cell 0 rfl
      have Yr1 := Rr.cell 1 rfl
      have Yr2 := Rr.cell 2 rfl
      have Lr := Rr.lt
      have Fr0 := Rr.frozen 0
      have Fr1 := Rr.frozen 1
      have Fr2 := Rr.frozen 2
      clear b28
      go_wp2_with fail
      refine (specRatOk_any m a2 ca2 ys b2 cb2 es _ (HA2.out.below B.out) hn2 (HB2.out.below B.out) hm2).mono ?_
      rintro e W29 ⟨rfl, b29⟩
      clear Yx0 Yx1 Yx2 Lx Yy0 Yy1 Yy2 Ly Yr0 Yr1 Yr2 Lr Fr0 Fr1 Fr2
      have Rx := box_step Rx b29
      have Ry := box_step Ry b29
      have Rr := box_step Rr b29
      have B := Lib.hid (bstep B.out b29)
      have sb29 := b29.size
      have Yx0 := Rx.cell 0 rfl
      have Yx1 := Rx.cell 1 rfl
      have Yx2 := Rx.cell 2 rfl
      have Lx := Rx.lt
      have Yy0 := Ry.cell 0 rfl
      have Yy1 := Ry.cell 1 rfl
      have Yy2 := Ry.cell 2 rfl
      have Ly := Ry.lt
      have Yr0 := Rr.cell 0 rfl
      have Yr1 := Rr.cell 1 rfl
      have Yr2 := Rr.cell 2 rfl
      have Lr := Rr.lt
      have Fr0 := Rr.frozen 0
      have Fr1 := Rr.frozen 1
      have Fr2 := Rr.frozen 2
      clear b29
      go_wp2_with fail
      refine (HL.out _ (HA.out.below B.out) (HB.out.below B.out) (HA2.out.below B.out) (HB2.out.below B.out)).mono ?_
      rintro e W30 ⟨p, c, p2, c2, rfl, hO, b30⟩
      clear Yx0 Yx1 Yx2 Lx Yy0 Yy1 Yy2 Ly Yr0 Yr1 Yr2 Lr Fr0 Fr1 Fr2
      have Rx := box_step Rx b30
      have Ry := box_step Ry b30
      have Rr := box_step Rr b30
      have B := Lib.hid (bstep B.out b30)
      have sb30 := b30.size
      have O := Lib.hid hO
      clear hO
      have Yx0 := Rx.cell 0 rfl
      have Yx1 := Rx.cell 1 rfl
      have Yx2 := Rx.cell 2 rfl
      have Lx := Rx.lt
      have Yy0 := Ry.cell 0 rfl
      have Yy1 := Ry.cell 1 rfl
      have Yy2 := Ry.cell 2 rfl
      have Ly := Ry.lt
      have Yr0 := Rr.cell 0 rfl
      have Yr1 := Rr.cell 1 rfl
      have Yr2 := Rr.cell 2 rfl
      have Lr := Rr.lt
      have Fr0 := Rr.frozen 0
      have Fr1 := Rr.frozen 1
      have Fr2 := Rr.frozen 2
      clear b30
      go_wp2
      refine bodyPost_ret (v := .agg #[.bool R.neg, .slice p R.num.length c, .slice p2 R.den.length c2]) (by simp [results, Try.results70, go_sem, Yr0, Yr1, Yr2, Lr]) rfl ⟨p, c, p2, c2, rfl, ratF_end (by first | omega | (simp; done) | (simp; omega)) (by first | omega | (simp; done) | (simp; omega)) O.out B.out _ _ _⟩
    · have h2' := Bool.eq_false_iff.2 h2
      rw [ratAddP_no2 h2']
      go_enter Try.func70, Try.ntmps70
      go_wp2_with fail
      refine (specRatOk_any n a ca xs b cb ds _ (HA.out.below (ba3 _ _ _ _)) hn (HB.out.below (ba3 _ _ _ _)) hm).mono ?_
      rintro e W31 ⟨rfl, b31⟩
      have Rx := bx3_0 b31
      have Ry := bx3_1 b31
      have Rr := bx3_2 b31
      have B := Lib.hid (bstep (ba3 _ _ _ _) b31)
      have sb31 := b31.size
      try simp at sb31
      have Yx0 := Rx.cell 0 rfl
      have Yx1 := Rx.cell 1 rfl
      have Yx2 := Rx.cell 2 rfl
      have Lx := Rx.lt
      have Yy0 := Ry.cell 0 rfl
      have Yy1 := Ry.cell 1 rfl
      have Yy2 := Ry.cell 2 rfl
      have Ly := Ry.lt
      have Yr0 := Rr.cell 0 rfl
      have Yr1 := Rr.cell 1 rfl
      have Yr2 := Rr.cell 2 rfl
      have Lr := Rr.lt
      have Fr0 := Rr.frozen 0
      have Fr1 := Rr.frozen 1
      have Fr2 := Rr.frozen 2
      clear b31
      go_wp2_with fail
      refine (specRatOk_any m a2 ca2 ys b2 cb2 es _ (HA2.out.below B.out) hn2 (HB2.out.below B.out) hm2).mono ?_
      rintro e W32 ⟨rfl, b32⟩
      clear Yx0 Yx1 Yx2 Lx Yy0 Yy1 Yy2 Ly Yr0 Yr1 Yr2 Lr Fr0 Fr1 Fr2
      have Rx := box_step Rx b32
      have Ry := box_step Ry b32
      have Rr := box_step Rr b32
      have B := Lib.hid (bstep B.out b32)
      have sb32 := b32.size
      have Yx0 := Rx.cell 0 rfl
      have Yx1 := Rx.cell 1 rfl
      have Yx2 := Rx.cell 2 rfl
      have Lx := Rx.lt
      have Yy0 := Ry.cell 0 rfl
      have Yy1 := Ry.cell 1 rfl
      have Yy2 := Ry.cell 2 rfl
      have Ly := Ry.lt
      have Yr0 := Rr.cell 0 rfl
      have Yr1 := Rr.cell 1 rfl
      have Yr2 := Rr.cell 2 rfl
      have Lr := Rr.lt
      have Fr0 := Rr.frozen 0
      have Fr1 := Rr.frozen 1
      have Fr2 := Rr.frozen 2
      clear b32
      go_wp2
      refine bodyPost_ret (v := .agg #[.bool false, .slice none 0 0, .slice none 0 0]) (by simp [results, Try.results70, go_sem, Yr0, Yr1, Yr2, Lr]) rfl ⟨none, 0, none, 0, rfl, ratzF_end (by first | omega | (simp; done) | (simp; omega)) B.out _ _ _⟩
  · have h1' := Bool.eq_false_iff.2 h1
    rw [ratAddP_no1 h1']
    go_enter Try.func70, Try.ntmps70
    go_wp2_with fail
    refine (specRatOk_any n a ca xs b cb ds _ (HA.out.below (ba3 _ _ _ _)) hn (HB.out.below (ba3 _ _ _ _)) hm).mono ?_
    rintro e W33 ⟨rfl, b33⟩
    have Rx := bx3_0 b33
    have Ry := bx3_1 b33
    have Rr := bx3_2 b33
    have B := Lib.hid (bstep (ba3 _ _ _ _) b33)
    have sb33 := b33.size
    try simp at sb33
    have Yx0 := Rx.cell 0 rfl
    have Yx1 := Rx.cell 1 rfl
    have Yx2 := Rx.cell 2 rfl
    have Lx := Rx.lt
    have Yy0 := Ry.cell 0 rfl
    have Yy1 := Ry.cell 1 rfl
    have Yy2 := Ry.cell 2 rfl
    have Ly := Ry.lt
    have Yr0 := Rr.cell 0 rfl
    have Yr1 := Rr.cell 1 rfl
    have Yr2 := Rr.cell 2 rfl
    have Lr := Rr.lt
    have Fr0 := Rr.frozen 0
    have Fr1 := Rr.frozen 1
    have Fr2 := Rr.frozen 2
    clear b33
    go_wp2
    refine bodyPost_ret (v := .agg #[.bool false, .slice none 0 0, .slice none 0 0]) (by simp [results, Try.results70, go_sem, Yr0, Yr1, Yr2, Lr]) rfl ⟨none, 0, none, 0, rfl, ratzF_end (by first | omega | (simp; done) | (simp; omega)) B.out _ _ _⟩

include ha hn hb hm ha2 hn2 hb2 hm2 in
theorem specRatAdd_any : Calls Try.prog 70 #[.agg #[.bool n, .slice a xs.length ca, .slice b ds.length cb], .agg #[.bool m, .slice a2 ys.length ca2, .slice b2 es.length cb2]] w fun e w' => ∃ p c p2 c2, e = .returned (.agg #[.bool (ratAddP n xs ds m ys es).neg, .slice p (ratAddP n xs ds m ys es).num.length c, .slice p2 (ratAddP n xs ds m ys es).den.length c2]) ∧ IntsAt w' p c (ratAddP n xs ds m ys es).num ∧ IntsAt w' p2 c2 (ratAddP n xs ds m ys es).den ∧ Below w.heap.size w w' :=
  (specRatAdd_own n a ca xs b cb ds m a2 ca2 ys b2 cb2 es w ha hn hb hm ha2 hn2 hb2 hm2).mono fun _ _ ⟨p, c, p2, c2, h1, h2, h3⟩ => ⟨p, c, p2, c2, h1, h2.i1, h2.i2, h3⟩

set_option maxRecDepth 100000 in
set_option maxHeartbeats 4000000 in
include ha hn hb hm ha2 hn2 hb2 hm2 in
theorem specRatSub_own : Calls Try.prog 72 #[.agg #[.bool n, .slice a xs.length ca, .slice b ds.length cb], .agg #[.bool m, .slice a2 ys.length ca2, .slice b2 es.length cb2]] w (RatRetS w (ratSubP n xs ds m ys es)) := by
  have HA := Lib.hid ha
  have HB := Lib.hid hb
  have HA2 := Lib.hid ha2
  have HB2 := Lib.hid hb2
  clear ha hb ha2 hb2
  by_cases h1 : ratOkB n xs ds = true
  · by_cases h2 : ratOkB m ys es = true
    · skip
      obtain ⟨R, hR⟩ : ∃ R, ratSubP n xs ds m ys es = R := ⟨_, rfl⟩
      have HL : Hid (∀ (W : World) (p : Option Addr) (c : Nat) (q : Option Addr) (d : Nat), IntsAt W a ca xs → IntsAt W b cb ds → IntsAt W p c ys → IntsAt W q d es → Calls Try.prog 124 #[.agg #[.bool n, .slice a xs.length ca, .slice b ds.length cb], .agg #[.bool (mkBI (!m) ys).neg, .slice p ys.length c, .slice q es.length d]] W (RatRetS W R)) := by
        intro W p c q d i1 i2 i3 i4
        rw [← hR, ratSub_neg h1 h2]
        exact l04Add_own n a ca xs b cb ds (mkBI (!m) ys).neg p c ys q d es W i1 hn i2 hm i3 hn2 i4 hm2 h1 (ratOk_neg h2)
      have H2 := Lib.hid h2
      rw [hR]
      clear hR
      go_enter Try.func72, Try.ntmps72
      go_wp2_with fail
      refine (specRatOk_any n a ca xs b cb ds _ (HA.out.below (ba3 _ _ _ _)) hn (HB.out.below (ba3 _ _ _ _)) hm).mono ?_
      rintro e W34 ⟨rfl, b34⟩
      have Rx := bx3_0 b34
      have Ry := bx3_1 b34
      have Rr := bx3_2 b34
      have B := Lib.hid (bstep (ba3 _ _ _ _) b34)
      have sb34 := b34.size
      try simp at sb34
      have Yx0 := Rx.cell 0 rfl
      have Yx1 := Rx.cell 1 rfl
      have Yx2 := Rx.cell 2 rfl
      have Lx := Rx.lt
      have Yy0 := Ry.cell 0 rfl
      have Yy1 := Ry.cell 1 rfl
      have Yy2 := Ry.cell 2 rfl
      have Ly := Ry.lt
      have Yr0 := Rr.cell 0 rfl
      have Yr1 := Rr.cell 1 rfl
      have Yr2 := Rr.cell 2 rfl
      have Lr := Rr.lt
      have Fr0 := Rr.frozen 0
      have Fr1 := Rr.frozen 1
      have Fr2 := Rr.frozen 2
      clear b34
      go_wp2_with fail
      refine (specRatOk_any m a2 ca2 ys b2 cb2 es _ (HA2.out.below B.out) hn2 (HB2.out.below B.out) hm2).mono ?_
      rintro e W35 ⟨rfl, b35⟩
      clear Yx0 Yx1 Yx2 Lx Yy0 Yy1 Yy2 Ly Yr0 Yr1 Yr2 Lr Fr0 Fr1 Fr2
      have Rx := box_step Rx b35
      have Ry := box_step Ry b35
      have Rr := box_step Rr b35
      have B := Lib.hid (bstep B.out b35)
      have sb35 := b35.size
      have Yx0 := Rx.cell 0 rfl
      have Yx1 := Rx.cell 1 rfl
      have Yx2 := Rx.cell 2 rfl
      have Lx := Rx.lt
      have Yy0 := Ry.cell 0 rfl
      have Yy1 := Ry.cell 1 rfl
      have Yy2 := Ry.cell 2 rfl
      have Ly := Ry.lt
      have Yr0 := Rr.cell 0 rfl
      have Yr1 := Rr.cell 1 rfl
      have Yr2 := Rr.cell 2 rfl
      have Lr := Rr.lt
      have Fr0 := Rr.frozen 0
      have Fr1 := Rr.frozen 1
      have Fr2 := Rr.frozen 2
      clear b35
      go_wp2_with fail
      go_region_held3 (fun w' => w'.cell? ⟨w.heap.size, 0, none⟩ = some (.bool n) ∧ w'.cell? ⟨w.heap.size, 1, none⟩ = some (.slice a xs.length ca) ∧ w'.cell? ⟨w.heap.size, 2, none⟩ = some (.slice b ds.length cb) ∧ w'.cell? ⟨w.heap.size + 1, 0, none⟩ = some (.bool m) ∧ w'.cell? ⟨w.heap.size + 1, 1, none⟩ = some (.slice a2 ys.length ca2) ∧ w'.cell? ⟨w.heap.size + 1, 2, none⟩ = some (.slice b2 es.length cb2))
        ((first | exact ⟨Yx0, Yx1, Yx2, Yy0, Yy1, Yy2⟩ | exact ⟨cell_stepD Yx0 b36, cell_stepD Yx1 b36, cell_stepD Yx2 b36, cell_stepD Yy0 b36, cell_stepD Yy1 b36, cell_stepD Yy2 b36⟩ | exact ⟨cell_step (cell_stepD Yx0 b36) b37, cell_step (cell_stepD Yx1 b36) b37, cell_step (cell_stepD Yx2 b36) b37, cell_step (cell_stepD Yy0 b36) b37, cell_step (cell_stepD Yy1 b36) b37, cell_step (cell_stepD Yy2 b36) b37⟩ | exact ⟨cell_low (cell_low (cell_low (cell_step (cell_stepD Yx0 b36) b37) (by first | (simp; done) | (simp; omega) | omega)) (by first | (simp; done) | (simp; omega) | omega)) (by first | (simp; done) | (simp; omega) | omega), cell_low (cell_low (cell_low (cell_step (cell_stepD Yx1 b36) b37) (by first | (simp; done) | (simp; omega) | omega)) (by first | (simp; done) | (simp; omega) | omega)) (by first | (simp; done) | (simp; omega) | omega), cell_low (cell_low (cell_low (cell_step (cell_stepD Yx2 b36) b37) (by first | (simp; done) | (simp; omega) | omega)) (by first | (simp; done) | (simp; omega) | omega)) (by first | (simp; done) | (simp; omega) | omega), cell_low (cell_low (cell_low (cell_step (cell_stepD Yy0 b36) b37) (by first | (simp; done) | (simp; omega) | omega)) (by first | (simp; done) | (simp; omega) | omega)) (by first | (simp; done) | (simp; omega) | omega), cell_low (cell_low (cell_low (cell_step (cell_stepD Yy1 b36) b37) (by first | (simp; done) | (simp; omega) | omega)) (by first | (simp; done) | (simp; omega) | omega)) (by first | (simp; done) | (simp; omega) | omega), cell_low (cell_low (cell_low (cell_step (cell_stepD Yy2 b36) b37) (by first | (simp; done) | (simp; omega) | omega)) (by first | (simp; done) | (simp; omega) | omega)) (by first | (simp; done) | (simp; omega) | omega)⟩))
        (first | (go_at_call 112; refine (l04Neg_own m a2 ca2 ys b2 cb2 es _ (HA2.out.below (B.out.drew)) hn2 (HB2.out.below (B.out.drew)) hm2 H2.out).mono ?_; rintro e W36 ⟨p, c, q, d, rfl, hO1, b36⟩; have s36 := b36.size; (try simp at s36)) | (go_at_call 124; refine (HL.out _ p c q d (HA.out.below (bstepD B.out b36)) (HB.out.below (bstepD B.out b36)) hO1.i1 hO1.i2).mono ?_; rintro e W37 ⟨p3, c3, p4, c4, rfl, hO, b37⟩; have s37 := b37.size; (try simp at s37); have Rr := (box_step (box_step (box_drew Rr) b36) b37); have Yr0 := Rr.cell 0 rfl; have Fr0 := Rr.frozen 0; have Yr1 := Rr.cell 1 rfl; have Fr1 := Rr.frozen 1; have Yr2 := Rr.cell 2 rfl; have Fr2 := Rr.frozen 2; have Lr := Rr.lt))
      have sb36 := b36.size
      try simp at sb36
      have sb37 := b37.size
      have O1 := Lib.hid ((hO1.below b37))
      clear hO1
      have O := Lib.hid (hO)
      clear hO
      have B := Lib.hid (bstep (bstepD B.out b36) b37)
      clear b36 b37
      go_wp2
      refine bodyPost_ret (v := .agg #[.bool R.neg, .slice p3 R.num.length c3, .slice p4 R.den.length c4]) (by simp [results, Try.results72, go_sem, Yr0, Yr1, Yr2, Lr]) rfl ⟨p3, c3, p4, c4, rfl, ratF_end (by first | omega | (simp; done) | (simp; omega)) (by first | omega | (simp; done) | (simp; omega)) O.out B.out _ _ _⟩
    · have h2' := Bool.eq_false_iff.2 h2
      rw [ratSubP_no2 h2']
      go_enter Try.func72, Try.ntmps72
      go_wp2_with fail
      refine (specRatOk_any n a ca xs b cb ds _ (HA.out.below (ba3 _ _ _ _)) hn (HB.out.below (ba3 _ _ _ _)) hm).mono ?_
      rintro e W38 ⟨rfl, b38⟩
      have Rx := bx3_0 b38
      have Ry := bx3_1 b38
      have Rr := bx3_2 b38
      have B := Lib.hid (bstep (ba3 _ _ _ _) b38)
      have sb38 := b38.size
      try simp at sb38
      have Yx0 := Rx.cell 0 rfl
      have Yx1 := Rx.cell 1 rfl
      have Yx2 := Rx.cell 2 rfl
      have Lx := Rx.lt
      have Yy0 := Ry.cell 0 rfl
      have Yy1 := Ry.cell 1 rfl
      have Yy2 := Ry.cell 2 rfl
      have Ly := Ry.lt
      have Yr0 := Rr.cell 0 rfl
      have Yr1 := Rr.cell 1 rfl
      have Yr2 := Rr.cell 2 rfl
      have Lr := Rr.lt
      have Fr0 := Rr.frozen 0
      have Fr1 := Rr.frozen 1
      have Fr2 := Rr.frozen 2
      clear b38
      go_wp2_with fail
      refine (specRatOk_any m a2 ca2 ys b2 cb2 es _ (HA2.out.below B.out) hn2 (HB2.out.below B.out) hm2).mono ?_
      rintro e W39 ⟨rfl, b39⟩
      clear Yx0 Yx1 Yx2 Lx Yy0 Yy1 Yy2 Ly Yr0 Yr1 Yr2 Lr Fr0 Fr1 Fr2
      have Rx := box_step Rx b39
      have Ry := box_step Ry b39
      have Rr := box_step Rr b39
      have B := Lib.hid (bstep B.out b39)
      have sb39 := b39.size
      have Yx0 := Rx.cell 0 rfl
      have Yx1 := Rx.cell 1 rfl
      have Yx2 := Rx.cell 2 rfl
      have Lx := Rx.lt
      have Yy0 := Ry.cell 0 rfl
      have Yy1 := Ry.cell 1 rfl
      have Yy2 := Ry.cell 2 rfl
      have Ly := Ry.lt
      have Yr0 := Rr.cell 0 rfl
      have Yr1 := Rr.cell 1 rfl
      have Yr2 := Rr.cell 2 rfl
      have Lr := Rr.lt
      have Fr0 := Rr.frozen 0
      have Fr1 := Rr.frozen 1
      have Fr2 := Rr.frozen 2
      clear b39
      go_wp2
      refine bodyPost_ret (v := .agg #[.bool false, .slice none 0 0, .slice none 0 0]) (by simp [results, Try.results72, go_sem, Yr0, Yr1, Yr2, Lr]) rfl ⟨none, 0, none, 0, rfl, ratzF_end (by first | omega | (simp; done) | (simp; omega)) B.out _ _ _⟩
  · have h1' := Bool.eq_false_iff.2 h1
    rw [ratSubP_no1 h1']
    go_enter Try.func72, Try.ntmps72
    go_wp2_with fail
    refine (specRatOk_any n a ca xs b cb ds _ (HA.out.below (ba3 _ _ _ _)) hn (HB.out.below (ba3 _ _ _ _)) hm).mono ?_
    rintro e W40 ⟨rfl, b40⟩
    have Rx := bx3_0 b40
    have Ry := bx3_1 b40
    have Rr := bx3_2 b40
    have B := Lib.hid (bstep (ba3 _ _ _ _) b40)
    have sb40 := b40.size
    try simp at sb40
    have Yx0 := Rx.cell 0 rfl
    have Yx1 := Rx.cell 1 rfl
    have Yx2 := Rx.cell 2 rfl
    have Lx := Rx.lt
    have Yy0 := Ry.cell 0 rfl
    have Yy1 := Ry.cell 1 rfl
    have Yy2 := Ry.cell 2 rfl
    have Ly := Ry.lt
    have Yr0 := Rr.cell 0 rfl
    have Yr1 := Rr.cell 1 rfl
    have Yr2 := Rr.cell 2 rfl
    have Lr := Rr.lt
    have Fr0 := Rr.frozen 0
    have Fr1 := Rr.frozen 1
    have Fr2 := Rr.frozen 2
    clear b40
    go_wp2
    refine bodyPost_ret (v := .agg #[.bool false, .slice none 0 0, .slice none 0 0]) (by simp [results, Try.results72, go_sem, Yr0, Yr1, Yr2, Lr]) rfl ⟨none, 0, none, 0, rfl, ratzF_end (by first | omega | (simp; done) | (simp; omega)) B.out _ _ _⟩

include ha hn hb hm ha2 hn2 hb2 hm2 in
theorem specRatSub_any : Calls Try.prog 72 #[.agg #[.bool n, .slice a xs.length ca, .slice b ds.length cb], .agg #[.bool m, .slice a2 ys.length ca2, .slice b2 es.length cb2]] w fun e w' => ∃ p c p2 c2, e = .returned (.agg #[.bool (ratSubP n xs ds m ys es).neg, .slice p (ratSubP n xs ds m ys es).num.length c, .slice p2 (ratSubP n xs ds m ys es).den.length c2]) ∧ IntsAt w' p c (ratSubP n xs ds m ys es).num ∧ IntsAt w' p2 c2 (ratSubP n xs ds m ys es).den ∧ Below w.heap.size w w' :=
  (specRatSub_own n a ca xs b cb ds m a2 ca2 ys b2 cb2 es w ha hn hb hm ha2 hn2 hb2 hm2).mono fun _ _ ⟨p, c, p2, c2, h1, h2, h3⟩ => ⟨p, c, p2, c2, h1, h2.i1, h2.i2, h3⟩

end
end Go.Proofs.Ytlpnhcoaidmiiaa
