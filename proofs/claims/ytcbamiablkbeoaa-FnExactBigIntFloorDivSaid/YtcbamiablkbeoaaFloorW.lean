/- FloorDiv: the ways that divide. -/
import Derived.Test.YtcbamiablkbeoaaFloorP
namespace Go.Proofs.Ytcbamiablkbeoaa
set_option linter.unusedVariables false
set_option linter.unusedSimpArgs false
open Go.RowKit
theorem specNatOk_b (a : Option Addr) (cap : Nat) (xs : List Int) (w : World) (ha : IntsAt w a cap xs) (hn : xs.length ≤ 1048576) : Calls Try.prog 56 #[.slice a xs.length cap] w fun e w' => e = .returned (.bool (natOkB xs)) ∧ Below w.heap.size w w' :=
  (specNatOk_q a cap xs w ha hn).mono fun _ _ h => ⟨h.1, h.2 ▸ Below.refl _ _⟩
theorem implNatOk_b (a : Option Addr) (cap : Nat) (xs : List Int) (w : World) (ha : IntsAt w a cap xs) (hn : xs.length ≤ 1048576) : Calls Try.prog 58 #[.slice a xs.length cap] w fun e w' => e = .returned (.bool (natOkB xs)) ∧ Below w.heap.size w w' :=
  (implNatOk_q a cap xs w ha hn).mono fun _ _ h => ⟨h.1, h.2 ▸ Below.refl _ _⟩
theorem val_one' : val [1] = 1 := by simp [val]
theorem digs_one' : digs 1 = [1] := by rw [← val_one']; exact ok_digs (by decide)
theorem natInc_any (p : Option Addr) (c Q : Nat) (q : Option Addr) (d : Nat) (w : World) (ha : IntsAt w p c (digs Q)) (hb : IntsAt w q d [1]) (hl : (digs Q).length ≤ 1048576) :
    Calls Try.prog 80 #[.slice p (digs Q).length c, .slice q 1 d] w fun e w' => ∃ p c, e = .returned (.slice p (digs (Q + 1)).length c) ∧ OwnI w' w.heap.size w'.heap.size (.slice p (digs (Q + 1)).length c) (digs (Q + 1)) ∧ Below w.heap.size w w' := by
  have h := natAdd_out p c (digs Q) q d [1] w ha hb hl (by simp) (by rw [val_digs]) (by rw [val_one', digs_one'])
  rw [val_digs, val_one'] at h
  exact h
theorem l02Inc_any (p : Option Addr) (c Q : Nat) (q : Option Addr) (d : Nat) (w : World) (ha : IntsAt w p c (digs Q)) (hb : IntsAt w q d [1]) (hl : (digs Q).length ≤ 500000) :
    Calls Try.prog 77 #[.slice p (digs Q).length c, .slice q 1 d] w fun e w' => ∃ ds p c, e = .returned (.slice p ds.length c) ∧ OwnI w' w.heap.size w'.heap.size (.slice p ds.length c) ds ∧ Hid (Rng ds) ∧ Hid (val ds = Q + 1) ∧ ds.length ≤ 1048576 ∧ Below w.heap.size w w' := by
  have h := l02Add_out p c (digs Q) q d [1] w ha hb hl (by simp) (digs_rng _) (fun x hx => by simp at hx; subst hx; omega)
  rw [val_digs, val_one'] at h
  exact h
set_option maxHeartbeats 4000000 in
theorem specFloor_down (n : Bool) (a : Option Addr) (ca : Nat) (xs : List Int) (b : Option Addr) (cb : Nat) (ms : List Int) (w : World) (ha : IntsAt w a ca xs) (hn : xs.length ≤ 1048576) (hb : IntsAt w b cb ms) (hm : ms.length ≤ 1048576) (h1 : bigOkB n xs = true) (h2 : natOkB ms = true) (hz : ((ms.length : Int) == 0) = false) (Q R : Nat) (hD : ∀ W, IntsAt W a ca xs → IntsAt W b cb ms → Calls Try.prog 73 #[.slice a xs.length ca, .slice b ms.length cb] W fun e w' => ∃ p c p2 c2, e = .returned (.tuple #[.slice p (digs Q).length c, .slice p2 (digs R).length c2]) ∧ Two w' W.heap.size w'.heap.size (.slice p (digs Q).length c) (.slice p2 (digs R).length c2) (digs Q) (digs R) ∧ Below W.heap.size W w') (hup : n = false ∨ R = 0) (hq : (digs Q).length ≤ 1048576) : Calls Try.prog 52 #[.agg #[.bool n, .slice a xs.length ca], .slice b ms.length cb] w fun e w' => ∃ p c p2 c2, e = .returned (.tuple #[.agg #[.bool ((mkBI n (capD Q)).neg), .slice p (capD Q).length c], .slice p2 (digs R).length c2]) ∧ IntsAt w' p c (capD Q) ∧ IntsAt w' p2 c2 (digs R) ∧ Below w.heap.size w w' := by
  have HA := Lib.hid ha
  have HB := Lib.hid hb
  clear ha hb
  cases n
  · -- false
    go_enter Try.func52, Try.ntmps52
    go_wp2_with fail
    refine (specBigIntOk_any false a ca xs _ (HA.out.below (ba2 _ _ _)) hn).mono ?_
    rintro e W1 ⟨rfl, b1⟩
    have Rx := bx2_0 b1
    have Rr := bx2_1 b1
    have B := Lib.hid (bstep (ba2 _ _ _) b1)
    have sb1 := b1.size
    try simp at sb1
    have Yx0 := Rx.cell 0 rfl
    have Yx1 := Rx.cell 1 rfl
    have Lx := Rx.lt
    have Yr0 := Rr.cell 0 rfl
    have Yr1 := Rr.cell 1 rfl
    have Lr := Rr.lt
    have Fr0 := Rr.frozen 0
    have Fr1 := Rr.frozen 1
    clear b1
    go_wp2_with fail
    refine (specNatOk_b b cb ms _ (HB.out.below B.out) hm).mono ?_
    rintro e W2 ⟨rfl, b2⟩
    clear Yx0 Yx1 Lx Yr0 Yr1 Lr Fr0 Fr1
    have Rx := box_step Rx b2
    have Rr := box_step Rr b2
    have B := Lib.hid (bstep B.out b2)
    have sb2 := b2.size
    have Yx0 := Rx.cell 0 rfl
    have Yx1 := Rx.cell 1 rfl
    have Lx := Rx.lt
    have Yr0 := Rr.cell 0 rfl
    have Yr1 := Rr.cell 1 rfl
    have Lr := Rr.lt
    have Fr0 := Rr.frozen 0
    have Fr1 := Rr.frozen 1
    clear b2
    go_wp2_with fail
    refine (hD _ (HA.out.below B.out) (HB.out.below B.out)).mono ?_
    rintro e W3 ⟨p, c, p2, c2, rfl, hT, b3⟩
    clear Yx0 Yx1 Lx Yr0 Yr1 Lr Fr0 Fr1
    have Rx := box_step Rx b3
    have Rr := box_step Rr b3
    have B := Lib.hid (bstep B.out b3)
    have sb3 := b3.size
    have T := Lib.hid hT
    clear hT
    have Yx0 := Rx.cell 0 rfl
    have Yx1 := Rx.cell 1 rfl
    have Lx := Rx.lt
    have Yr0 := Rr.cell 0 rfl
    have Yr1 := Rr.cell 1 rfl
    have Lr := Rr.lt
    have Fr0 := Rr.frozen 0
    have Fr1 := Rr.frozen 1
    clear b3
    go_wp2_with fail
    refine (l03Make_val false Q p c (digs Q) _ T.out.i1 hq (digs_rng _) (val_digs _)).mono ?_
    rintro e W4 ⟨p3, c3, rfl, hO, b4⟩
    clear Yx0 Yx1 Lx Yr0 Yr1 Lr Fr0 Fr1
    have Rx := box_step Rx b4
    have Rr := box_step Rr b4
    have B := Lib.hid (bstep B.out b4)
    have T := Lib.hid (T.out.below b4)
    have sb4 := b4.size
    have O := Lib.hid hO
    clear hO
    have Yx0 := Rx.cell 0 rfl
    have Yx1 := Rx.cell 1 rfl
    have Lx := Rx.lt
    have Yr0 := Rr.cell 0 rfl
    have Yr1 := Rr.cell 1 rfl
    have Lr := Rr.lt
    have Fr0 := Rr.frozen 0
    have Fr1 := Rr.frozen 1
    clear b4
    go_wp2
    refine bodyPost_ret (v := .tuple #[.agg #[.bool (mkBI false (capD Q)).neg, .slice p3 (capD Q).length c3], .slice p2 (digs R).length c2]) (by simp [results, Try.results52, go_sem, Yr0, Yr1, Lr]) rfl ⟨p3, c3, p2, c2, rfl, ((O.out.put (R := w.heap.size + 1) (by first | omega | (simp; done) | (simp; omega))).put (R := w.heap.size + 1) (by first | omega | (simp; done) | (simp; omega))).ints, ((T.out.put (R := w.heap.size + 1) (by first | omega | (simp; done) | (simp; omega))).put (R := w.heap.size + 1) (by first | omega | (simp; done) | (simp; omega))).i2, below_put (below_put B.out (by first | omega | (simp; done) | (simp; omega))) (by first | omega | (simp; done) | (simp; omega))⟩
  · -- true
    have hR : R = 0 := hup.resolve_left (by simp)
    subst hR
    have hrl : ((digs 0).length : Int) = 0 := by rw [digs_zero]; rfl
    have hrz : (((digs 0).length : Int) == 0) = true := by rw [digs_zero]; rfl
    have hrp : decide (0 < ((digs 0).length : Int)) = false := by rw [digs_zero]; rfl
    go_enter Try.func52, Try.ntmps52
    go_wp2_with fail
    refine (specBigIntOk_any true a ca xs _ (HA.out.below (ba2 _ _ _)) hn).mono ?_
    rintro e W5 ⟨rfl, b5⟩
    have Rx := bx2_0 b5
    have Rr := bx2_1 b5
    have B := Lib.hid (bstep (ba2 _ _ _) b5)
    have sb5 := b5.size
    try simp at sb5
    have Yx0 := Rx.cell 0 rfl
    have Yx1 := Rx.cell 1 rfl
    have Lx := Rx.lt
    have Yr0 := Rr.cell 0 rfl
    have Yr1 := Rr.cell 1 rfl
    have Lr := Rr.lt
    have Fr0 := Rr.frozen 0
    have Fr1 := Rr.frozen 1
    clear b5
    go_wp2_with fail
    refine (specNatOk_b b cb ms _ (HB.out.below B.out) hm).mono ?_
    rintro e W6 ⟨rfl, b6⟩
    clear Yx0 Yx1 Lx Yr0 Yr1 Lr Fr0 Fr1
    have Rx := box_step Rx b6
    have Rr := box_step Rr b6
    have B := Lib.hid (bstep B.out b6)
    have sb6 := b6.size
    have Yx0 := Rx.cell 0 rfl
    have Yx1 := Rx.cell 1 rfl
    have Lx := Rx.lt
    have Yr0 := Rr.cell 0 rfl
    have Yr1 := Rr.cell 1 rfl
    have Lr := Rr.lt
    have Fr0 := Rr.frozen 0
    have Fr1 := Rr.frozen 1
    clear b6
    go_wp2_with fail
    refine (hD _ (HA.out.below B.out) (HB.out.below B.out)).mono ?_
    rintro e W7 ⟨p, c, p2, c2, rfl, hT, b7⟩
    clear Yx0 Yx1 Lx Yr0 Yr1 Lr Fr0 Fr1
    have Rx := box_step Rx b7
    have Rr := box_step Rr b7
    have B := Lib.hid (bstep B.out b7)
    have sb7 := b7.size
    have T := Lib.hid hT
    clear hT
    have Yx0 := Rx.cell 0 rfl
    have Yx1 := Rx.cell 1 rfl
    have Lx := Rx.lt
    have Yr0 := Rr.cell 0 rfl
    have Yr1 := Rr.cell 1 rfl
    have Lr := Rr.lt
    have Fr0 := Rr.frozen 0
    have Fr1 := Rr.frozen 1
    clear b7
    go_wp2_with fail
    refine (l03Make_val true Q p c (digs Q) _ T.out.i1 hq (digs_rng _) (val_digs _)).mono ?_
    rintro e W8 ⟨p3, c3, rfl, hO, b8⟩
    clear Yx0 Yx1 Lx Yr0 Yr1 Lr Fr0 Fr1
    have Rx := box_step Rx b8
    have Rr := box_step Rr b8
    have B := Lib.hid (bstep B.out b8)
    have T := Lib.hid (T.out.below b8)
    have sb8 := b8.size
    have O := Lib.hid hO
    clear hO
    have Yx0 := Rx.cell 0 rfl
    have Yx1 := Rx.cell 1 rfl
    have Lx := Rx.lt
    have Yr0 := Rr.cell 0 rfl
    have Yr1 := Rr.cell 1 rfl
    have Lr := Rr.lt
    have Fr0 := Rr.frozen 0
    have Fr1 := Rr.frozen 1
    clear b8
    go_wp2
    refine bodyPost_ret (v := .tuple #[.agg #[.bool (mkBI true (capD Q)).neg, .slice p3 (capD Q).length c3], .slice p2 (digs 0).length c2]) (by simp [results, Try.results52, go_sem, Yr0, Yr1, Lr]) rfl ⟨p3, c3, p2, c2, rfl, ((O.out.put (R := w.heap.size + 1) (by first | omega | (simp; done) | (simp; omega))).put (R := w.heap.size + 1) (by first | omega | (simp; done) | (simp; omega))).ints, ((T.out.put (R := w.heap.size + 1) (by first | omega | (simp; done) | (simp; omega))).put (R := w.heap.size + 1) (by first | omega | (simp; done) | (simp; omega))).i2, below_put (below_put B.out (by first | omega | (simp; done) | (simp; omega))) (by first | omega | (simp; done) | (simp; omega))⟩
set_option maxHeartbeats 4000000 in
theorem implFloor_down (n : Bool) (a : Option Addr) (ca : Nat) (xs : List Int) (b : Option Addr) (cb : Nat) (ms : List Int) (w : World) (ha : IntsAt w a ca xs) (hn : xs.length ≤ 1048576) (hb : IntsAt w b cb ms) (hm : ms.length ≤ 1048576) (h1 : bigOkB n xs = true) (h2 : natOkB ms = true) (hz : ((ms.length : Int) == 0) = false) (Q R : Nat) (hD : ∀ W, IntsAt W a ca xs → IntsAt W b cb ms → Calls Try.prog 74 #[.slice a xs.length ca, .slice b ms.length cb] W fun e w' => ∃ p c p2 c2, e = .returned (.tuple #[.slice p (digs Q).length c, .slice p2 (digs R).length c2]) ∧ Two w' W.heap.size w'.heap.size (.slice p (digs Q).length c) (.slice p2 (digs R).length c2) (digs Q) (digs R) ∧ Below W.heap.size W w') (hup : n = false ∨ R = 0) (hq : (digs Q).length ≤ 1048576) : Calls Try.prog 53 #[.agg #[.bool n, .slice a xs.length ca], .slice b ms.length cb] w fun e w' => ∃ p c p2 c2, e = .returned (.tuple #[.agg #[.bool (n && decide (0 < (digs Q).length)), .slice p (digs Q).length c], .slice p2 (digs R).length c2]) ∧ Two w' w.heap.size w'.heap.size (.slice p (digs Q).length c) (.slice p2 (digs R).length c2) (digs Q) (digs R) ∧ Below w.heap.size w w' := by
  have HA := Lib.hid ha
  have HB := Lib.hid hb
  clear ha hb
  cases n
  · -- false
    go_enter Try.func53, Try.ntmps53
    go_wp2_with fail
    refine (implBigIntOk_any false a ca xs _ (HA.out.below (ba2 _ _ _)) hn).mono ?_
    rintro e W9 ⟨rfl, b9⟩
    have Rx := bx2_0 b9
    have Rr := bx2_1 b9
    have B := Lib.hid (bstep (ba2 _ _ _) b9)
    have sb9 := b9.size
    try simp at sb9
    have Yx0 := Rx.cell 0 rfl
    have Yx1 := Rx.cell 1 rfl
    have Lx := Rx.lt
    have Yr0 := Rr.cell 0 rfl
    have Yr1 := Rr.cell 1 rfl
    have Lr := Rr.lt
    have Fr0 := Rr.frozen 0
    have Fr1 := Rr.frozen 1
    clear b9
    go_wp2_with fail
    refine (implNatOk_b b cb ms _ (HB.out.below B.out) hm).mono ?_
    rintro e W10 ⟨rfl, b10⟩
    clear Yx0 Yx1 Lx Yr0 Yr1 Lr Fr0 Fr1
    have Rx := box_step Rx b10
    have Rr := box_step Rr b10
    have B := Lib.hid (bstep B.out b10)
    have sb10 := b10.size
    have Yx0 := Rx.cell 0 rfl
    have Yx1 := Rx.cell 1 rfl
    have Lx := Rx.lt
    have Yr0 := Rr.cell 0 rfl
    have Yr1 := Rr.cell 1 rfl
    have Lr := Rr.lt
    have Fr0 := Rr.frozen 0
    have Fr1 := Rr.frozen 1
    clear b10
    go_wp2_with fail
    refine (hD _ (HA.out.below B.out) (HB.out.below B.out)).mono ?_
    rintro e W11 ⟨p, c, p2, c2, rfl, hT, b11⟩
    clear Yx0 Yx1 Lx Yr0 Yr1 Lr Fr0 Fr1
    have Rx := box_step Rx b11
    have Rr := box_step Rr b11
    have B := Lib.hid (bstep B.out b11)
    have sb11 := b11.size
    have T := Lib.hid hT
    clear hT
    have Yx0 := Rx.cell 0 rfl
    have Yx1 := Rx.cell 1 rfl
    have Lx := Rx.lt
    have Yr0 := Rr.cell 0 rfl
    have Yr1 := Rr.cell 1 rfl
    have Lr := Rr.lt
    have Fr0 := Rr.frozen 0
    have Fr1 := Rr.frozen 1
    clear b11
    go_wp2_with fail
    refine (signed_any false p (digs Q).length c _).mono ?_
    rintro e W12 ⟨rfl, b12⟩
    clear Yx0 Yx1 Lx Yr0 Yr1 Lr Fr0 Fr1
    have Rx := box_step Rx b12
    have Rr := box_step Rr b12
    have B := Lib.hid (bstep B.out b12)
    have T := Lib.hid (T.out.below b12)
    have sb12 := b12.size
    have Yx0 := Rx.cell 0 rfl
    have Yx1 := Rx.cell 1 rfl
    have Lx := Rx.lt
    have Yr0 := Rr.cell 0 rfl
    have Yr1 := Rr.cell 1 rfl
    have Lr := Rr.lt
    have Fr0 := Rr.frozen 0
    have Fr1 := Rr.frozen 1
    clear b12
    go_wp2
    refine bodyPost_ret (v := .tuple #[.agg #[.bool (false && decide (0 < (digs Q).length)), .slice p (digs Q).length c], .slice p2 (digs R).length c2]) (by simp [results, Try.results53, go_sem, Yr0, Yr1, Lr]) rfl ⟨p, c, p2, c2, rfl, big_two (R := w.heap.size + 1) (by first | omega | (simp; done) | (simp; omega)) (by first | omega | (simp; done) | (simp; omega)) T.out (by first | omega | (simp; done) | (simp; omega)) B.out _ _⟩
  · -- true
    have hR : R = 0 := hup.resolve_left (by simp)
    subst hR
    have hrl : ((digs 0).length : Int) = 0 := by rw [digs_zero]; rfl
    have hrz : (((digs 0).length : Int) == 0) = true := by rw [digs_zero]; rfl
    have hrp : decide (0 < ((digs 0).length : Int)) = false := by rw [digs_zero]; rfl
    go_enter Try.func53, Try.ntmps53
    go_wp2_with fail
    refine (implBigIntOk_any true a ca xs _ (HA.out.below (ba2 _ _ _)) hn).mono ?_
    rintro e W13 ⟨rfl, b13⟩
    have Rx := bx2_0 b13
    have Rr := bx2_1 b13
    have B := Lib.hid (bstep (ba2 _ _ _) b13)
    have sb13 := b13.size
    try simp at sb13
    have Yx0 := Rx.cell 0 rfl
    have Yx1 := Rx.cell 1 rfl
    have Lx := Rx.lt
    have Yr0 := Rr.cell 0 rfl
    have Yr1 := Rr.cell 1 rfl
    have Lr := Rr.lt
    have Fr0 := Rr.frozen 0
    have Fr1 := Rr.frozen 1
    clear b13
    go_wp2_with fail
    refine (implNatOk_b b cb ms _ (HB.out.below B.out) hm).mono ?_
    rintro e W14 ⟨rfl, b14⟩
    clear Yx0 Yx1 Lx Yr0 Yr1 Lr Fr0 Fr1
    have Rx := box_step Rx b14
    have Rr := box_step Rr b14
    have B := Lib.hid (bstep B.out b14)
    have sb14 := b14.size
    have Yx0 := Rx.cell 0 rfl
    have Yx1 := Rx.cell 1 rfl
    have Lx := Rx.lt
    have Yr0 := Rr.cell 0 rfl
    have Yr1 := Rr.cell 1 rfl
    have Lr := Rr.lt
    have Fr0 := Rr.frozen 0
    have Fr1 := Rr.frozen 1
    clear b14
    go_wp2_with fail
    refine (hD _ (HA.out.below B.out) (HB.out.below B.out)).mono ?_
    rintro e W15 ⟨p, c, p2, c2, rfl, hT, b15⟩
    clear Yx0 Yx1 Lx Yr0 Yr1 Lr Fr0 Fr1
    have Rx := box_step Rx b15
    have Rr := box_step Rr b15
    have B := Lib.hid (bstep B.out b15)
    have sb15 := b15.size
    have T := Lib.hid hT
    clear hT
    have Yx0 := Rx.cell 0 rfl
    have Yx1 := Rx.cell 1 rfl
    have Lx := Rx.lt
    have Yr0 := Rr.cell 0 rfl
    have Yr1 := Rr.cell 1 rfl
    have Lr := Rr.lt
    have Fr0 := Rr.frozen 0
    have Fr1 := Rr.frozen 1
    clear b15
    go_wp2_with fail
    refine (signed_any true p (digs Q).length c _).mono ?_
    rintro e W16 ⟨rfl, b16⟩
    clear Yx0 Yx1 Lx Yr0 Yr1 Lr Fr0 Fr1
    have Rx := box_step Rx b16
    have Rr := box_step Rr b16
    have B := Lib.hid (bstep B.out b16)
    have T := Lib.hid (T.out.below b16)
    have sb16 := b16.size
    have Yx0 := Rx.cell 0 rfl
    have Yx1 := Rx.cell 1 rfl
    have Lx := Rx.lt
    have Yr0 := Rr.cell 0 rfl
    have Yr1 := Rr.cell 1 rfl
    have Lr := Rr.lt
    have Fr0 := Rr.frozen 0
    have Fr1 := Rr.frozen 1
    clear b16
    go_wp2
    refine bodyPost_ret (v := .tuple #[.agg #[.bool (true && decide (0 < (digs Q).length)), .slice p (digs Q).length c], .slice p2 (digs 0).length c2]) (by simp [results, Try.results53, go_sem, Yr0, Yr1, Lr]) rfl ⟨p, c, p2, c2, rfl, big_two (R := w.heap.size + 1) (by first | omega | (simp; done) | (simp; omega)) (by first | omega | (simp; done) | (simp; omega)) T.out (by first | omega | (simp; done) | (simp; omega)) B.out _ _⟩
set_option maxHeartbeats 4000000 in
theorem specFloor_up (a : Option Addr) (ca : Nat) (xs : List Int) (b : Option Addr) (cb : Nat) (ms : List Int) (w : World) (ha : IntsAt w a ca xs) (hn : xs.length ≤ 1048576) (hb : IntsAt w b cb ms) (hm : ms.length ≤ 1048576) (h1 : bigOkB true xs = true) (h2 : natOkB ms = true) (hz : ((ms.length : Int) == 0) = false) (Q R M : Nat) (hD : ∀ W, IntsAt W a ca xs → IntsAt W b cb ms → Calls Try.prog 73 #[.slice a xs.length ca, .slice b ms.length cb] W fun e w' => ∃ p c p2 c2, e = .returned (.tuple #[.slice p (digs Q).length c, .slice p2 (digs R).length c2]) ∧ Two w' W.heap.size w'.heap.size (.slice p (digs Q).length c) (.slice p2 (digs R).length c2) (digs Q) (digs R) ∧ Below W.heap.size W w') (hr : 0 < (digs R).length) (hq : (digs Q).length ≤ 400000) (hM : val ms = M) (hy : digs M = ms) (hRM : R < M) (hfit : (digs (Q + 1)).length ≤ 60) : Calls Try.prog 52 #[.agg #[.bool true, .slice a xs.length ca], .slice b ms.length cb] w fun e w' => ∃ p c p2 c2, e = .returned (.tuple #[.agg #[.bool ((mkBI true (capD (Q + 1))).neg), .slice p (capD (Q + 1)).length c], .slice p2 (digs (M - R)).length c2]) ∧ IntsAt w' p c (capD (Q + 1)) ∧ IntsAt w' p2 c2 (digs (M - R)) ∧ Below w.heap.size w w' := by
  have HA := Lib.hid ha
  have HB := Lib.hid hb
  clear ha hb
  have HM := Lib.hid hM
  have HY := Lib.hid hy
  have hrz : (((digs R).length : Int) == 0) = false := beq_eq_false_iff_ne.2 (by omega)
  have hrp : decide (0 < ((digs R).length : Int)) = true := decide_eq_true (by omega)
  have RM : Hid (Rng ms) := by rw [← hy]; exact digs_rng _
  have hml : (digs R).length ≤ ms.length := by have := len_of_le (xs := digs M) (ys := digs R) (by rw [val_digs]) (by rw [val_digs]) (by rw [val_digs, val_digs]; omega); rw [hy] at this; exact this
  have HV : Hid (val (digs R) ≤ val ms) := by rw [Hid, val_digs, hM]; omega
  clear hM hy
  go_enter Try.func52, Try.ntmps52
  go_wp2_with fail
  refine (specBigIntOk_any true a ca xs _ (HA.out.below (ba2 _ _ _)) hn).mono ?_
  rintro e W17 ⟨rfl, b17⟩
  have Rx := bx2_0 b17
  have Rr := bx2_1 b17
  have B := Lib.hid (bstep (ba2 _ _ _) b17)
  have sb17 := b17.size
  try simp at sb17
  have Yx0 := Rx.cell 0 rfl
  have Yx1 := Rx.cell 1 rfl
  have Lx := Rx.lt
  have Yr0 := Rr.cell 0 rfl
  have Yr1 := Rr.cell 1 rfl
  have Lr := Rr.lt
  have Fr0 := Rr.frozen 0
  have Fr1 := Rr.frozen 1
  clear b17
  go_wp2_with fail
  refine (specNatOk_b b cb ms _ (HB.out.below B.out) hm).mono ?_
  rintro e W18 ⟨rfl, b18⟩
  clear Yx0 Yx1 Lx Yr0 Yr1 Lr Fr0 Fr1
  have Rx := box_step Rx b18
  have Rr := box_step Rr b18
  have B := Lib.hid (bstep B.out b18)
  have sb18 := b18.size
  have Yx0 := Rx.cell 0 rfl
  have Yx1 := Rx.cell 1 rfl
  have Lx := Rx.lt
  have Yr0 := Rr.cell 0 rfl
  have Yr1 := Rr.cell 1 rfl
  have Lr := Rr.lt
  have Fr0 := Rr.frozen 0
  have Fr1 := Rr.frozen 1
  clear b18
  go_wp2_with fail
  refine (hD _ (HA.out.below B.out) (HB.out.below B.out)).mono ?_
  rintro e W19 ⟨p, c, p2, c2, rfl, hT, b19⟩
  clear Yx0 Yx1 Lx Yr0 Yr1 Lr Fr0 Fr1
  have Rx := box_step Rx b19
  have Rr := box_step Rr b19
  have B := Lib.hid (bstep B.out b19)
  have sb19 := b19.size
  have T := Lib.hid hT
  clear hT
  have Yx0 := Rx.cell 0 rfl
  have Yx1 := Rx.cell 1 rfl
  have Lx := Rx.lt
  have Yr0 := Rr.cell 0 rfl
  have Yr1 := Rr.cell 1 rfl
  have Lr := Rr.lt
  have Fr0 := Rr.frozen 0
  have Fr1 := Rr.frozen 1
  clear b19
  go_wp2_with fail
  refine (l02Inc_any p c Q _ _ _ (T.out.i1.below (ba1 _ _)) (one_at _) (by omega)).mono ?_
  rintro e W20 ⟨ds, p3, c3, rfl, hO, hrd, hvd, hld, b20⟩
  replace b20 := bstep (ba1 _ _) b20
  clear Yx0 Yx1 Lx Yr0 Yr1 Lr Fr0 Fr1
  have Rx := box_step Rx b20
  have Rr := box_step Rr b20
  have B := Lib.hid (bstep B.out b20)
  have T := Lib.hid (T.out.below b20)
  have sb20 := b20.size
  have O := Lib.hid hO
  clear hO
  have Yx0 := Rx.cell 0 rfl
  have Yx1 := Rx.cell 1 rfl
  have Lx := Rx.lt
  have Yr0 := Rr.cell 0 rfl
  have Yr1 := Rr.cell 1 rfl
  have Lr := Rr.lt
  have Fr0 := Rr.frozen 0
  have Fr1 := Rr.frozen 1
  clear b20
  go_wp2_with fail
  refine (l03Make_val true (Q + 1) p3 c3 ds _ O.out.ints hld hrd.out hvd.out).mono ?_
  rintro e W21 ⟨p4, c4, rfl, hP, b21⟩
  clear Yx0 Yx1 Lx Yr0 Yr1 Lr Fr0 Fr1
  have Rx := box_step Rx b21
  have Rr := box_step Rr b21
  have B := Lib.hid (bstep B.out b21)
  have T := Lib.hid (T.out.below b21)
  have O := Lib.hid (O.out.below b21)
  have sb21 := b21.size
  have P := Lib.hid hP
  clear hP
  have Yx0 := Rx.cell 0 rfl
  have Yx1 := Rx.cell 1 rfl
  have Lx := Rx.lt
  have Yr0 := Rr.cell 0 rfl
  have Yr1 := Rr.cell 1 rfl
  have Lr := Rr.lt
  have Fr0 := Rr.frozen 0
  have Fr1 := Rr.frozen 1
  clear b21
  go_wp2_with fail
  refine (own_out (l02Sub_any b cb ms p2 c2 (digs R) _ (HB.out.below B.out) T.out.i2 hm hml RM.out (digs_rng _) HV.out)).mono ?_
  rintro e W22 ⟨p5, c5, rfl, hS, b22⟩
  clear Yx0 Yx1 Lx Yr0 Yr1 Lr Fr0 Fr1
  have Rx := box_step Rx b22
  have Rr := box_step Rr b22
  have B := Lib.hid (bstep B.out b22)
  have T := Lib.hid (T.out.below b22)
  have O := Lib.hid (O.out.below b22)
  have P := Lib.hid (P.out.below b22)
  have sb22 := b22.size
  have S := Lib.hid hS
  clear hS
  have Yx0 := Rx.cell 0 rfl
  have Yx1 := Rx.cell 1 rfl
  have Lx := Rx.lt
  have Yr0 := Rr.cell 0 rfl
  have Yr1 := Rr.cell 1 rfl
  have Lr := Rr.lt
  have Fr0 := Rr.frozen 0
  have Fr1 := Rr.frozen 1
  clear b22
  rw [HM.out, val_digs] at S
  rw [HM.out, val_digs]
  go_wp2
  refine bodyPost_ret (v := .tuple #[.agg #[.bool (mkBI true (capD (Q + 1))).neg, .slice p4 (capD (Q + 1)).length c4], .slice p5 (digs (M - R)).length c5]) (by simp [results, Try.results52, go_sem, Yr0, Yr1, Lr]) rfl ⟨p4, c4, p5, c5, rfl, ((P.out.put (R := w.heap.size + 1) (by first | omega | (simp; done) | (simp; omega))).put (R := w.heap.size + 1) (by first | omega | (simp; done) | (simp; omega))).ints, ((S.out.put (R := w.heap.size + 1) (by first | omega | (simp; done) | (simp; omega))).put (R := w.heap.size + 1) (by first | omega | (simp; done) | (simp; omega))).ints, below_put (below_put B.out (by first | omega | (simp; done) | (simp; omega))) (by first | omega | (simp; done) | (simp; omega))⟩
set_option maxHeartbeats 4000000 in
theorem implFloor_up (a : Option Addr) (ca : Nat) (xs : List Int) (b : Option Addr) (cb : Nat) (ms : List Int) (w : World) (ha : IntsAt w a ca xs) (hn : xs.length ≤ 1048576) (hb : IntsAt w b cb ms) (hm : ms.length ≤ 1048576) (h1 : bigOkB true xs = true) (h2 : natOkB ms = true) (hz : ((ms.length : Int) == 0) = false) (Q R M : Nat) (hD : ∀ W, IntsAt W a ca xs → IntsAt W b cb ms → Calls Try.prog 74 #[.slice a xs.length ca, .slice b ms.length cb] W fun e w' => ∃ p c p2 c2, e = .returned (.tuple #[.slice p (digs Q).length c, .slice p2 (digs R).length c2]) ∧ Two w' W.heap.size w'.heap.size (.slice p (digs Q).length c) (.slice p2 (digs R).length c2) (digs Q) (digs R) ∧ Below W.heap.size W w') (hr : 0 < (digs R).length) (hq : (digs Q).length ≤ 400000) (hM : val ms = M) (hy : digs M = ms) (hRM : R < M) (hfit : (digs (Q + 1)).length ≤ 60) : Calls Try.prog 53 #[.agg #[.bool true, .slice a xs.length ca], .slice b ms.length cb] w fun e w' => ∃ p c p2 c2, e = .returned (.tuple #[.agg #[.bool (true && decide (0 < (digs (Q + 1)).length)), .slice p (digs (Q + 1)).length c], .slice p2 (digs (M - R)).length c2]) ∧ Two w' w.heap.size w'.heap.size (.slice p (digs (Q + 1)).length c) (.slice p2 (digs (M - R)).length c2) (digs (Q + 1)) (digs (M - R)) ∧ Below w.heap.size w w' := by
  have HA := Lib.hid ha
  have HB := Lib.hid hb
  clear ha hb
  have HM := Lib.hid hM
  have HY := Lib.hid hy
  have hrz : (((digs R).length : Int) == 0) = false := beq_eq_false_iff_ne.2 (by omega)
  have hrp : decide (0 < ((digs R).length : Int)) = true := decide_eq_true (by omega)
  have RM : Hid (Rng ms) := by rw [← hy]; exact digs_rng _
  have hml : (digs R).length ≤ ms.length := by have := len_of_le (xs := digs M) (ys := digs R) (by rw [val_digs]) (by rw [val_digs]) (by rw [val_digs, val_digs]; omega); rw [hy] at this; exact this
  have HV : Hid (val (digs R) ≤ val ms) := by rw [Hid, val_digs, hM]; omega
  clear hM hy
  go_enter Try.func53, Try.ntmps53
  go_wp2_with fail
  refine (implBigIntOk_any true a ca xs _ (HA.out.below (ba2 _ _ _)) hn).mono ?_
  rintro e W23 ⟨rfl, b23⟩
  have Rx := bx2_0 b23
  have Rr := bx2_1 b23
  have B := Lib.hid (bstep (ba2 _ _ _) b23)
  have sb23 := b23.size
  try simp at sb23
  have Yx0 := Rx.cell 0 rfl
  have Yx1 := Rx.cell 1 rfl
  have Lx := Rx.lt
  have Yr0 := Rr.cell 0 rfl
  have Yr1 := Rr.cell 1 rfl
  have Lr := Rr.lt
  have Fr0 := Rr.frozen 0
  have Fr1 := Rr.frozen 1
  clear b23
  go_wp2_with fail
  refine (implNatOk_b b cb ms _ (HB.out.below B.out) hm).mono ?_
  rintro e W24 ⟨rfl, b24⟩
  clear Yx0 Yx1 Lx Yr0 Yr1 Lr Fr0 Fr1
  have Rx := box_step Rx b24
  have Rr := box_step Rr b24
  have B := Lib.hid (bstep B.out b24)
  have sb24 := b24.size
  have Yx0 := Rx.cell 0 rfl
  have Yx1 := Rx.cell 1 rfl
  have Lx := Rx.lt
  have Yr0 := Rr.cell 0 rfl
  have Yr1 := Rr.cell 1 rfl
  have Lr := Rr.lt
  have Fr0 := Rr.frozen 0
  have Fr1 := Rr.frozen 1
  clear b24
  go_wp2_with fail
  refine (hD _ (HA.out.below B.out) (HB.out.below B.out)).mono ?_
  rintro e W25 ⟨p, c, p2, c2, rfl, hT, b25⟩
  clear Yx0 Yx1 Lx Yr0 Yr1 Lr Fr0 Fr1
  have Rx := box_step Rx b25
  have Rr := box_step Rr b25
  have B := Lib.hid (bstep B.out b25)
  have sb25 := b25.size
  have T := Lib.hid hT
  clear hT
  have Yx0 := Rx.cell 0 rfl
  have Yx1 := Rx.cell 1 rfl
  have Lx := Rx.lt
  have Yr0 := Rr.cell 0 rfl
  have Yr1 := Rr.cell 1 rfl
  have Lr := Rr.lt
  have Fr0 := Rr.frozen 0
  have Fr1 := Rr.frozen 1
  clear b25
  have hfl : decide (60 < ((digs (Q + 1)).length : Int)) = false := decide_eq_false (by omega)
  go_wp2_with fail
  refine (natInc_any p c Q _ _ _ (T.out.i1.below (ba1 _ _)) (one_at _) (by omega)).mono ?_
  rintro e W26 ⟨p3, c3, rfl, hO, b26⟩
  replace b26 := bstep (ba1 _ _) b26
  clear Yx0 Yx1 Lx Yr0 Yr1 Lr Fr0 Fr1
  have Rx := box_step Rx b26
  have Rr := box_step Rr b26
  have B := Lib.hid (bstep B.out b26)
  have T := Lib.hid (T.out.below b26)
  have sb26 := b26.size
  have O := Lib.hid hO
  clear hO
  have Yx0 := Rx.cell 0 rfl
  have Yx1 := Rx.cell 1 rfl
  have Lx := Rx.lt
  have Yr0 := Rr.cell 0 rfl
  have Yr1 := Rr.cell 1 rfl
  have Lr := Rr.lt
  have Fr0 := Rr.frozen 0
  have Fr1 := Rr.frozen 1
  clear b26
  go_wp2_with fail
  refine (signed_any true p3 (digs (Q + 1)).length c3 _).mono ?_
  rintro e W27 ⟨rfl, b27⟩
  clear Yx0 Yx1 Lx Yr0 Yr1 Lr Fr0 Fr1
  have Rx := box_step Rx b27
  have Rr := box_step Rr b27
  have B := Lib.hid (bstep B.out b27)
  have T := Lib.hid (T.out.below b27)
  have O := Lib.hid (O.out.below b27)
  have sb27 := b27.size
  have Yx0 := Rx.cell 0 rfl
  have Yx1 := Rx.cell 1 rfl
  have Lx := Rx.lt
  have Yr0 := Rr.cell 0 rfl
  have Yr1 := Rr.cell 1 rfl
  have Lr := Rr.lt
  have Fr0 := Rr.frozen 0
  have Fr1 := Rr.frozen 1
  clear b27
  go_wp2_with fail
  refine (own_out (natSub_any b cb ms p2 c2 (digs R) _ (HB.out.below B.out) T.out.i2 hm hml RM.out (digs_rng _) HV.out)).mono ?_
  rintro e W28 ⟨p4, c4, rfl, hS, b28⟩
  clear Yx0 Yx1 Lx Yr0 Yr1 Lr Fr0 Fr1
  have Rx := box_step Rx b28
  have Rr := box_step Rr b28
  have B := Lib.hid (bstep B.out b28)
  have T := Lib.hid (T.out.below b28)
  have O := Lib.hid (O.out.below b28)
  have sb28 := b28.size
  have S := Lib.hid hS
  clear hS
  have Yx0 := Rx.cell 0 rfl
  have Yx1 := Rx.cell 1 rfl
  have Lx := Rx.lt
  have Yr0 := Rr.cell 0 rfl
  have Yr1 := Rr.cell 1 rfl
  have Lr := Rr.lt
  have Fr0 := Rr.frozen 0
  have Fr1 := Rr.frozen 1
  clear b28
  rw [HM.out, val_digs] at S
  rw [HM.out, val_digs]
  go_wp2
  refine bodyPost_ret (v := .tuple #[.agg #[.bool (true && decide (0 < (digs (Q + 1)).length)), .slice p3 (digs (Q + 1)).length c3], .slice p4 (digs (M - R)).length c4]) (by simp [results, Try.results53, go_sem, Yr0, Yr1, Lr]) rfl ⟨p3, c3, p4, c4, rfl, big_two (R := w.heap.size + 1) (lo := w.heap.size + 2) (hi := W28.heap.size) (by first | omega | (simp; done) | (simp; omega)) (by first | omega | (simp; done) | (simp; omega)) (Two.of O.out S.out (by first | omega | (simp; done) | (simp; omega)) (by first | omega | (simp; done) | (simp; omega)) (by first | omega | (simp; done) | (simp; omega)) (by first | omega | (simp; done) | (simp; omega)) (by first | omega | (simp; done) | (simp; omega))) (by first | omega | (simp; done) | (simp; omega)) B.out _ _⟩
end Go.Proofs.Ytcbamiablkbeoaa
