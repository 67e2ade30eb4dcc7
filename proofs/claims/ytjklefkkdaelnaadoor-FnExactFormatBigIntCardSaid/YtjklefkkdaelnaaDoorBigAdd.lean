/- BigIntAdd, BigIntSub. -/
import Derived.Test.YtjklefkkdaelnaaDoorBigLaw
import Derived.Test.YtjklefkkdaelnaaDoorNatSub
namespace Go.Proofs.YtjklefkkdaelnaaDoor
set_option linter.unusedVariables false
set_option linter.unusedSimpArgs false
open Go.RowKit

theorem natAdd_out (a : Option Addr) (ca : Nat) (xs : List Int) (b : Option Addr) (cb : Nat) (ys : List Int) (w : World) (ha : IntsAt w a ca xs) (hb : IntsAt w b cb ys) (hn : xs.length ≤ 1048576) (hm : ys.length ≤ 1048576) (hx : digs (val xs) = xs) (hy : digs (val ys) = ys) :
    Calls Tryd.prog 83 #[.slice a xs.length ca, .slice b ys.length cb] w fun e w' => ∃ p c, e = .returned (.slice p (digs (val xs + val ys)).length c) ∧ OwnI w' w.heap.size w'.heap.size (.slice p (digs (val xs + val ys)).length c) (digs (val xs + val ys)) ∧ Below w.heap.size w w' := by
  have h := natAdd_any a ca b cb (val xs) (val ys) w (by rw [hx]; exact ha) (by rw [hy]; exact hb) (by rw [hx]; exact hn) (by rw [hy]; exact hm)
  rw [hx, hy] at h
  exact own_out h
theorem cmp_digs {xs ys : List Int} (hx : digs (val xs) = xs) (hy : digs (val ys) = ys) : cmpL xs ys = cmpN (val xs) (val ys) := by
  have := cmpL_digs (val xs) (val ys)
  rwa [hx, hy] at this
theorem cmp_ge {xs ys : List Int} (hx : digs (val xs) = xs) (hy : digs (val ys) = ys) (h : val ys ≤ val xs) : 0 ≤ cmpL xs ys := by
  rw [cmp_digs hx hy, cmpN, if_neg (by omega)]; split <;> omega
theorem cmp_neg {xs ys : List Int} (hx : digs (val xs) = xs) (hy : digs (val ys) = ys) (h : val xs < val ys) : cmpL xs ys < 0 := by
  rw [cmp_digs hx hy, cmpN, if_pos h]; omega
theorem rng_of {xs : List Int} (h : digs (val xs) = xs) : Rng xs := by rw [← h]; exact digs_rng _
theorem len_of_le {xs ys : List Int} (hx : digs (val xs) = xs) (hy : digs (val ys) = ys) (h : val ys ≤ val xs) : ys.length ≤ xs.length := le_of_cmp (rng_of hx) (rng_of hy) h hy hx
theorem digs_add_len {xs ys : List Int} (hx : Rng xs) (hy : Rng ys) {k : Nat} (h1 : xs.length ≤ k) (h2 : ys.length ≤ k) : (digs (val xs + val ys)).length ≤ k + 1 := by
  have a1 := val_lt hx
  have a2 := val_lt hy
  have b1 := pw_mono h1
  have b2 := pw_mono h2
  exact digs_len_le (by rw [pw_succ]; omega)
theorem digs_sub_len {xs : List Int} (hx : Rng xs) {k m : Nat} (h1 : xs.length ≤ k) : (digs (val xs - m)).length ≤ k := by
  have a1 := val_lt hx
  have b1 := pw_mono h1
  exact digs_len_le (by omega)
/-- what the reference makes of a sum's digits -/
theorem l03Make_val (n : Bool) (N : Nat) (a : Option Addr) (c : Nat) (xs : List Int) (w : World) (ha : IntsAt w a c xs) (hn : xs.length ≤ 1048576) (hr : Rng xs) (hv : val xs = N) :
    Calls Tryd.prog 124 #[.bool n, .slice a xs.length c] w fun e w' => ∃ b c', e = .returned (.agg #[.bool (mkBI n (capD N)).neg, .slice b (capD N).length c']) ∧
      OwnI w' w.heap.size w'.heap.size (.slice b (capD N).length c') (capD N) ∧ Below w.heap.size w w' := by
  subst hv
  exact l03Make_any n a c xs w ha hn hr
section
variable (n : Bool) (a : Option Addr) (ca : Nat) (xs : List Int) (m : Bool) (b : Option Addr) (cb : Nat) (ys : List Int) (w : World) (ha : IntsAt w a ca xs) (hn : xs.length ≤ 500000) (hb : IntsAt w b cb ys) (hm : ys.length ≤ 500000) (hx : digs (val xs) = xs) (hy : digs (val ys) = ys)
include ha hn hb hm hx hy
set_option maxHeartbeats 2000000 in
theorem bigAdd_any : Calls Tryd.prog 88 #[.agg #[.bool n, .slice a xs.length ca], .agg #[.bool m, .slice b ys.length cb]] w fun e w' => ∃ p c', e = .returned (.agg #[.bool (ofI (toI n xs + toI m ys)).neg, .slice p (ofI (toI n xs + toI m ys)).mag.length c']) ∧
    OwnI w' w.heap.size w'.heap.size (.slice p (ofI (toI n xs + toI m ys)).mag.length c') (ofI (toI n xs + toI m ys)).mag ∧ Below w.heap.size w w' := by
  have HA := Lib.hid ha
  have HB := Lib.hid hb
  have HX := Lib.hid hx
  have HY := Lib.hid hy
  have RX := Lib.hid (rng_of hx)
  have RY := Lib.hid (rng_of hy)
  clear ha hb hx hy
  by_cases h1 : n = m
  · subst h1
    rw [toI_same, ← mkBI_any]
    have Rx : Box (((w.alloc (.cells #[.bool n, .slice a xs.length ca] 39)).alloc (.cells #[.bool n, .slice b ys.length cb] 39)).alloc (.cells #[.bool false, .slice none 0 0] 39)) (w.heap.size) #[.bool n, .slice a xs.length ca] := bx3_0 (Below.refl _ _)
    have Ry : Box (((w.alloc (.cells #[.bool n, .slice a xs.length ca] 39)).alloc (.cells #[.bool n, .slice b ys.length cb] 39)).alloc (.cells #[.bool false, .slice none 0 0] 39)) (w.heap.size + 1) #[.bool n, .slice b ys.length cb] := bx3_1 (Below.refl _ _)
    have Rr : Box (((w.alloc (.cells #[.bool n, .slice a xs.length ca] 39)).alloc (.cells #[.bool n, .slice b ys.length cb] 39)).alloc (.cells #[.bool false, .slice none 0 0] 39)) (w.heap.size + 2) #[.bool false, .slice none 0 0] := bx3_2 (Below.refl _ _)
    have B : Hid (Below w.heap.size w (((w.alloc (.cells #[.bool n, .slice a xs.length ca] 39)).alloc (.cells #[.bool n, .slice b ys.length cb] 39)).alloc (.cells #[.bool false, .slice none 0 0] 39))) := Lib.hid (ba3 _ _ _ _)
    have Yx0 : (((w.alloc (.cells #[.bool n, .slice a xs.length ca] 39)).alloc (.cells #[.bool n, .slice b ys.length cb] 39)).alloc (.cells #[.bool false, .slice none 0 0] 39)).cell? ⟨w.heap.size, 0, none⟩ = some (.bool n) := Rx.cell 0 rfl
    have Yx1 : (((w.alloc (.cells #[.bool n, .slice a xs.length ca] 39)).alloc (.cells #[.bool n, .slice b ys.length cb] 39)).alloc (.cells #[.bool false, .slice none 0 0] 39)).cell? ⟨w.heap.size, 1, none⟩ = some (.slice a xs.length ca) := Rx.cell 1 rfl
    have Yy0 : (((w.alloc (.cells #[.bool n, .slice a xs.length ca] 39)).alloc (.cells #[.bool n, .slice b ys.length cb] 39)).alloc (.cells #[.bool false, .slice none 0 0] 39)).cell? ⟨w.heap.size + 1, 0, none⟩ = some (.bool n) := Ry.cell 0 rfl
    have Yy1 : (((w.alloc (.cells #[.bool n, .slice a xs.length ca] 39)).alloc (.cells #[.bool n, .slice b ys.length cb] 39)).alloc (.cells #[.bool false, .slice none 0 0] 39)).cell? ⟨w.heap.size + 1, 1, none⟩ = some (.slice b ys.length cb) := Ry.cell 1 rfl
    have Yr0 : (((w.alloc (.cells #[.bool n, .slice a xs.length ca] 39)).alloc (.cells #[.bool n, .slice b ys.length cb] 39)).alloc (.cells #[.bool false, .slice none 0 0] 39)).cell? ⟨w.heap.size + 2, 0, none⟩ = some (.bool false) := Rr.cell 0 rfl
    have Yr1 : (((w.alloc (.cells #[.bool n, .slice a xs.length ca] 39)).alloc (.cells #[.bool n, .slice b ys.length cb] 39)).alloc (.cells #[.bool false, .slice none 0 0] 39)).cell? ⟨w.heap.size + 2, 1, none⟩ = some (.slice none 0 0) := Rr.cell 1 rfl
    go_enter Tryd.func88, Tryd.ntmps88
    go_wp2_with fail
    go_region_held3 (fun w' => w'.cell? ⟨w.heap.size, 0, none⟩ = some (.bool n) ∧ w'.cell? ⟨w.heap.size, 1, none⟩ = some (.slice a xs.length ca) ∧ w'.cell? ⟨w.heap.size + 1, 0, none⟩ = some (.bool n) ∧ w'.cell? ⟨w.heap.size + 1, 1, none⟩ = some (.slice b ys.length cb))
      ((first | exact ⟨Yx0, Yx1, Yy0, Yy1⟩ | exact ⟨cell_stepD Yx0 b1, cell_stepD Yx1 b1, cell_stepD Yy0 b1, cell_stepD Yy1 b1⟩ | exact ⟨cell_step (cell_stepD Yx0 b1) b2, cell_step (cell_stepD Yx1 b1) b2, cell_step (cell_stepD Yy0 b1) b2, cell_step (cell_stepD Yy1 b1) b2⟩ | exact ⟨cell_low (cell_low (cell_step (cell_stepD Yx0 b1) b2) (by first | (simp; done) | (simp; omega) | omega)) (by first | (simp; done) | (simp; omega) | omega), cell_low (cell_low (cell_step (cell_stepD Yx1 b1) b2) (by first | (simp; done) | (simp; omega) | omega)) (by first | (simp; done) | (simp; omega) | omega), cell_low (cell_low (cell_step (cell_stepD Yy0 b1) b2) (by first | (simp; done) | (simp; omega) | omega)) (by first | (simp; done) | (simp; omega) | omega), cell_low (cell_low (cell_step (cell_stepD Yy1 b1) b2) (by first | (simp; done) | (simp; omega) | omega)) (by first | (simp; done) | (simp; omega) | omega)⟩))
      (first | (go_at_call 83; refine (natAdd_out a ca xs b cb ys _ (HA.out.below (B.out.drew)) (HB.out.below (B.out.drew)) (by omega) (by omega) HX.out HY.out).mono ?_; rintro e W1 ⟨p, c', rfl, hO, b1⟩; have s1 := b1.size; (try simp at s1)) | (go_at_call 125; refine (signed_any n p (digs (val xs + val ys)).length c' _).mono ?_; rintro e W2 ⟨rfl, b2⟩; have s2 := b2.size; (try simp at s2); have Rr := (box_step (box_step (box_drew Rr) b1) b2); have Yr0 := Rr.cell 0 rfl; have Fr0 := Rr.frozen 0; have Yr1 := Rr.cell 1 rfl; have Fr1 := Rr.frozen 1; have Lr := Rr.lt))
    have sb1 := b1.size
    try simp at sb1
    have sb2 := b2.size
    have O := Lib.hid ((hO.below b2))
    clear hO
    have B := Lib.hid (bstep (bstepD B.out b1) b2)
    clear b1 b2
    go_wp2
    refine bodyPost_ret (v := .agg #[.bool (mkBI n (digs (val xs + val ys))).neg, .slice p (digs (val xs + val ys)).length c']) (by simp [results, Tryd.results88, go_sem, Yr0, Yr1, Lr, mkBI]) rfl ⟨p, c', rfl, big_endR (by first | omega | (simp; done) | (simp; omega)) (by first | omega | (simp; done) | (simp; omega)) O.out (by first | omega | (simp; done) | (simp; omega)) B.out _ _⟩
  · have hne : (n == m) = false := beq_eq_false_iff_ne.2 h1
    by_cases h2 : val ys ≤ val xs
    · rw [toI_first h1 h2, ← mkBI_any]
      have hc := cmp_ge HX.out HY.out h2
      have HL := Lib.hid (len_of_le HX.out HY.out h2)
      have H2 := Lib.hid h2
      clear h1 h2
      have Rx : Box (((w.alloc (.cells #[.bool n, .slice a xs.length ca] 39)).alloc (.cells #[.bool m, .slice b ys.length cb] 39)).alloc (.cells #[.bool false, .slice none 0 0] 39)) (w.heap.size) #[.bool n, .slice a xs.length ca] := bx3_0 (Below.refl _ _)
      have Ry : Box (((w.alloc (.cells #[.bool n, .slice a xs.length ca] 39)).alloc (.cells #[.bool m, .slice b ys.length cb] 39)).alloc (.cells #[.bool false, .slice none 0 0] 39)) (w.heap.size + 1) #[.bool m, .slice b ys.length cb] := bx3_1 (Below.refl _ _)
      have Rr : Box (((w.alloc (.cells #[.bool n, .slice a xs.length ca] 39)).alloc (.cells #[.bool m, .slice b ys.length cb] 39)).alloc (.cells #[.bool false, .slice none 0 0] 39)) (w.heap.size + 2) #[.bool false, .slice none 0 0] := bx3_2 (Below.refl _ _)
      have B : Hid (Below w.heap.size w (((w.alloc (.cells #[.bool n, .slice a xs.length ca] 39)).alloc (.cells #[.bool m, .slice b ys.length cb] 39)).alloc (.cells #[.bool false, .slice none 0 0] 39))) := Lib.hid (ba3 _ _ _ _)
      have Yx0 : (((w.alloc (.cells #[.bool n, .slice a xs.length ca] 39)).alloc (.cells #[.bool m, .slice b ys.length cb] 39)).alloc (.cells #[.bool false, .slice none 0 0] 39)).cell? ⟨w.heap.size, 0, none⟩ = some (.bool n) := Rx.cell 0 rfl
      have Yx1 : (((w.alloc (.cells #[.bool n, .slice a xs.length ca] 39)).alloc (.cells #[.bool m, .slice b ys.length cb] 39)).alloc (.cells #[.bool false, .slice none 0 0] 39)).cell? ⟨w.heap.size, 1, none⟩ = some (.slice a xs.length ca) := Rx.cell 1 rfl
      have Yy0 : (((w.alloc (.cells #[.bool n, .slice a xs.length ca] 39)).alloc (.cells #[.bool m, .slice b ys.length cb] 39)).alloc (.cells #[.bool false, .slice none 0 0] 39)).cell? ⟨w.heap.size + 1, 0, none⟩ = some (.bool m) := Ry.cell 0 rfl
      have Yy1 : (((w.alloc (.cells #[.bool n, .slice a xs.length ca] 39)).alloc (.cells #[.bool m, .slice b ys.length cb] 39)).alloc (.cells #[.bool false, .slice none 0 0] 39)).cell? ⟨w.heap.size + 1, 1, none⟩ = some (.slice b ys.length cb) := Ry.cell 1 rfl
      have Yr0 : (((w.alloc (.cells #[.bool n, .slice a xs.length ca] 39)).alloc (.cells #[.bool m, .slice b ys.length cb] 39)).alloc (.cells #[.bool false, .slice none 0 0] 39)).cell? ⟨w.heap.size + 2, 0, none⟩ = some (.bool false) := Rr.cell 0 rfl
      have Yr1 : (((w.alloc (.cells #[.bool n, .slice a xs.length ca] 39)).alloc (.cells #[.bool m, .slice b ys.length cb] 39)).alloc (.cells #[.bool false, .slice none 0 0] 39)).cell? ⟨w.heap.size + 2, 1, none⟩ = some (.slice none 0 0) := Rr.cell 1 rfl
      go_enter Tryd.func88, Tryd.ntmps88
      go_wp2_with fail
      refine (natCmp_any a ca xs b cb ys _ (HA.out.below B.out) (HB.out.below B.out) (by omega) (by omega)).mono ?_
      rintro e W3 ⟨rfl, b3⟩
      clear Yx0 Yx1 Yy0 Yy1 Yr0 Yr1
      have Rx := box_step Rx b3
      have Ry := box_step Ry b3
      have Rr := box_step Rr b3
      have B := Lib.hid (bstep B.out b3)
      have sb3 := b3.size
      have Yx0 := Rx.cell 0 rfl
      have Yx1 := Rx.cell 1 rfl
      have Lx := Rx.lt
      have Yy0 := Ry.cell 0 rfl
      have Yy1 := Ry.cell 1 rfl
      have Ly := Ry.lt
      have Yr0 := Rr.cell 0 rfl
      have Yr1 := Rr.cell 1 rfl
      have Lr := Rr.lt
      have Fr0 := Rr.frozen 0
      have Fr1 := Rr.frozen 1
      clear b3
      go_wp2_with fail
      go_region_held3 (fun w' => w'.cell? ⟨w.heap.size, 0, none⟩ = some (.bool n) ∧ w'.cell? ⟨w.heap.size, 1, none⟩ = some (.slice a xs.length ca) ∧ w'.cell? ⟨w.heap.size + 1, 0, none⟩ = some (.bool m) ∧ w'.cell? ⟨w.heap.size + 1, 1, none⟩ = some (.slice b ys.length cb))
        ((first | exact ⟨Yx0, Yx1, Yy0, Yy1⟩ | exact ⟨cell_stepD Yx0 b4, cell_stepD Yx1 b4, cell_stepD Yy0 b4, cell_stepD Yy1 b4⟩ | exact ⟨cell_step (cell_stepD Yx0 b4) b5, cell_step (cell_stepD Yx1 b4) b5, cell_step (cell_stepD Yy0 b4) b5, cell_step (cell_stepD Yy1 b4) b5⟩ | exact ⟨cell_low (cell_low (cell_step (cell_stepD Yx0 b4) b5) (by first | (simp; done) | (simp; omega) | omega)) (by first | (simp; done) | (simp; omega) | omega), cell_low (cell_low (cell_step (cell_stepD Yx1 b4) b5) (by first | (simp; done) | (simp; omega) | omega)) (by first | (simp; done) | (simp; omega) | omega), cell_low (cell_low (cell_step (cell_stepD Yy0 b4) b5) (by first | (simp; done) | (simp; omega) | omega)) (by first | (simp; done) | (simp; omega) | omega), cell_low (cell_low (cell_step (cell_stepD Yy1 b4) b5) (by first | (simp; done) | (simp; omega) | omega)) (by first | (simp; done) | (simp; omega) | omega)⟩))
        (first | (go_at_call 126; refine (own_out (natSub_any a ca xs b cb ys _ (HA.out.below (B.out.drew)) (HB.out.below (B.out.drew)) (by omega) HL.out RX.out RY.out H2.out)).mono ?_; rintro e W4 ⟨p, c', rfl, hO, b4⟩; have s4 := b4.size; (try simp at s4)) | (go_at_call 125; refine (signed_any n p (digs (val xs - val ys)).length c' _).mono ?_; rintro e W5 ⟨rfl, b5⟩; have s5 := b5.size; (try simp at s5); have Rr := (box_step (box_step (box_drew Rr) b4) b5); have Yr0 := Rr.cell 0 rfl; have Fr0 := Rr.frozen 0; have Yr1 := Rr.cell 1 rfl; have Fr1 := Rr.frozen 1; have Lr := Rr.lt))
      have sb4 := b4.size
      try simp at sb4
      have sb5 := b5.size
      have O := Lib.hid ((hO.below b5))
      clear hO
      have B := Lib.hid (bstep (bstepD B.out b4) b5)
      clear b4 b5
      go_wp2
      refine bodyPost_ret (v := .agg #[.bool (mkBI n (digs (val xs - val ys))).neg, .slice p (digs (val xs - val ys)).length c']) (by simp [results, Tryd.results88, go_sem, Yr0, Yr1, Lr, mkBI]) rfl ⟨p, c', rfl, big_endR (by first | omega | (simp; done) | (simp; omega)) (by first | omega | (simp; done) | (simp; omega)) O.out (by first | omega | (simp; done) | (simp; omega)) B.out _ _⟩
    · have h3 : val xs < val ys := by omega
      rw [toI_second h1 (by omega), ← mkBI_any]
      have hc := cmp_neg HX.out HY.out h3
      have HL := Lib.hid (len_of_le HY.out HX.out (by omega))
      have H2 : Hid (val xs ≤ val ys) := by unfold Hid; omega
      clear h1 h2 h3
      have Rx : Box (((w.alloc (.cells #[.bool n, .slice a xs.length ca] 39)).alloc (.cells #[.bool m, .slice b ys.length cb] 39)).alloc (.cells #[.bool false, .slice none 0 0] 39)) (w.heap.size) #[.bool n, .slice a xs.length ca] := bx3_0 (Below.refl _ _)
      have Ry : Box (((w.alloc (.cells #[.bool n, .slice a xs.length ca] 39)).alloc (.cells #[.bool m, .slice b ys.length cb] 39)).alloc (.cells #[.bool false, .slice none 0 0] 39)) (w.heap.size + 1) #[.bool m, .slice b ys.length cb] := bx3_1 (Below.refl _ _)
      have Rr : Box (((w.alloc (.cells #[.bool n, .slice a xs.length ca] 39)).alloc (.cells #[.bool m, .slice b ys.length cb] 39)).alloc (.cells #[.bool false, .slice none 0 0] 39)) (w.heap.size + 2) #[.bool false, .slice none 0 0] := bx3_2 (Below.refl _ _)
      have B : Hid (Below w.heap.size w (((w.alloc (.cells #[.bool n, .slice a xs.length ca] 39)).alloc (.cells #[.bool m, .slice b ys.length cb] 39)).alloc (.cells #[.bool false, .slice none 0 0] 39))) := Lib.hid (ba3 _ _ _ _)
      have Yx0 : (((w.alloc (.cells #[.bool n, .slice a xs.length ca] 39)).alloc (.cells #[.bool m, .slice b ys.length cb] 39)).alloc (.cells #[.bool false, .slice none 0 0] 39)).cell? ⟨w.heap.size, 0, none⟩ = some (.bool n) := Rx.cell 0 rfl
      have Yx1 : (((w.alloc (.cells #[.bool n, .slice a xs.length ca] 39)).alloc (.cells #[.bool m, .slice b ys.length cb] 39)).alloc (.cells #[.bool false, .slice none 0 0] 39)).cell? ⟨w.heap.size, 1, none⟩ = some (.slice a xs.length ca) := Rx.cell 1 rfl
      have Yy0 : (((w.alloc (.cells #[.bool n, .slice a xs.length ca] 39)).alloc (.cells #[.bool m, .slice b ys.length cb] 39)).alloc (.cells #[.bool false, .slice none 0 0] 39)).cell? ⟨w.heap.size + 1, 0, none⟩ = some (.bool m) := Ry.cell 0 rfl
      have Yy1 : (((w.alloc (.cells #[.bool n, .slice a xs.length ca] 39)).alloc (.cells #[.bool m, .slice b ys.length cb] 39)).alloc (.cells #[.bool false, .slice none 0 0] 39)).cell? ⟨w.heap.size + 1, 1, none⟩ = some (.slice b ys.length cb) := Ry.cell 1 rfl
      have Yr0 : (((w.alloc (.cells #[.bool n, .slice a xs.length ca] 39)).alloc (.cells #[.bool m, .slice b ys.length cb] 39)).alloc (.cells #[.bool false, .slice none 0 0] 39)).cell? ⟨w.heap.size + 2, 0, none⟩ = some (.bool false) := Rr.cell 0 rfl
      have Yr1 : (((w.alloc (.cells #[.bool n, .slice a xs.length ca] 39)).alloc (.cells #[.bool m, .slice b ys.length cb] 39)).alloc (.cells #[.bool false, .slice none 0 0] 39)).cell? ⟨w.heap.size + 2, 1, none⟩ = some (.slice none 0 0) := Rr.cell 1 rfl
      go_enter Tryd.func88, Tryd.ntmps88
      go_wp2_with fail
      refine (natCmp_any a ca xs b cb ys _ (HA.out.below B.out) (HB.out.below B.out) (by omega) (by omega)).mono ?_
      rintro e W6 ⟨rfl, b6⟩
      clear Yx0 Yx1 Yy0 Yy1 Yr0 Yr1
      have Rx := box_step Rx b6
      have Ry := box_step Ry b6
      have Rr := box_step Rr b6
      have B := Lib.hid (bstep B.out b6)
      have sb6 := b6.size
      have Yx0 := Rx.cell 0 rfl
      have Yx1 := Rx.cell 1 rfl
      have Lx := Rx.lt
      have Yy0 := Ry.cell 0 rfl
      have Yy1 := Ry.cell 1 rfl
      have Ly := Ry.lt
      have Yr0 := Rr.cell 0 rfl
      have Yr1 := Rr.cell 1 rfl
      have Lr := Rr.lt
      have Fr0 := Rr.frozen 0
      have Fr1 := Rr.frozen 1
      clear b6
      go_wp2_with fail
      go_region_held3 (fun w' => w'.cell? ⟨w.heap.size, 0, none⟩ = some (.bool n) ∧ w'.cell? ⟨w.heap.size, 1, none⟩ = some (.slice a xs.length ca) ∧ w'.cell? ⟨w.heap.size + 1, 0, none⟩ = some (.bool m) ∧ w'.cell? ⟨w.heap.size + 1, 1, none⟩ = some (.slice b ys.length cb))
        ((first | exact ⟨Yx0, Yx1, Yy0, Yy1⟩ | exact ⟨cell_stepD Yx0 b7, cell_stepD Yx1 b7, cell_stepD Yy0 b7, cell_stepD Yy1 b7⟩ | exact ⟨cell_step (cell_stepD Yx0 b7) b8, cell_step (cell_stepD Yx1 b7) b8, cell_step (cell_stepD Yy0 b7) b8, cell_step (cell_stepD Yy1 b7) b8⟩ | exact ⟨cell_low (cell_low (cell_step (cell_stepD Yx0 b7) b8) (by first | (simp; done) | (simp; omega) | omega)) (by first | (simp; done) | (simp; omega) | omega), cell_low (cell_low (cell_step (cell_stepD Yx1 b7) b8) (by first | (simp; done) | (simp; omega) | omega)) (by first | (simp; done) | (simp; omega) | omega), cell_low (cell_low (cell_step (cell_stepD Yy0 b7) b8) (by first | (simp; done) | (simp; omega) | omega)) (by first | (simp; done) | (simp; omega) | omega), cell_low (cell_low (cell_step (cell_stepD Yy1 b7) b8) (by first | (simp; done) | (simp; omega) | omega)) (by first | (simp; done) | (simp; omega) | omega)⟩))
        (first | (go_at_call 126; refine (own_out (natSub_any b cb ys a ca xs _ (HB.out.below (B.out.drew)) (HA.out.below (B.out.drew)) (by omega) HL.out RY.out RX.out H2.out)).mono ?_; rintro e W7 ⟨p, c', rfl, hO, b7⟩; have s7 := b7.size; (try simp at s7)) | (go_at_call 125; refine (signed_any m p (digs (val ys - val xs)).length c' _).mono ?_; rintro e W8 ⟨rfl, b8⟩; have s8 := b8.size; (try simp at s8); have Rr := (box_step (box_step (box_drew Rr) b7) b8); have Yr0 := Rr.cell 0 rfl; have Fr0 := Rr.frozen 0; have Yr1 := Rr.cell 1 rfl; have Fr1 := Rr.frozen 1; have Lr := Rr.lt))
      have sb7 := b7.size
      try simp at sb7
      have sb8 := b8.size
      have O := Lib.hid ((hO.below b8))
      clear hO
      have B := Lib.hid (bstep (bstepD B.out b7) b8)
      clear b7 b8
      go_wp2
      refine bodyPost_ret (v := .agg #[.bool (mkBI m (digs (val ys - val xs))).neg, .slice p (digs (val ys - val xs)).length c']) (by simp [results, Tryd.results88, go_sem, Yr0, Yr1, Lr, mkBI]) rfl ⟨p, c', rfl, big_endR (by first | omega | (simp; done) | (simp; omega)) (by first | omega | (simp; done) | (simp; omega)) O.out (by first | omega | (simp; done) | (simp; omega)) B.out _ _⟩
end
section
variable (n : Bool) (a : Option Addr) (ca : Nat) (xs : List Int) (m : Bool) (b : Option Addr) (cb : Nat) (ys : List Int) (w : World) (ha : IntsAt w a ca xs) (hn : xs.length ≤ 1048576) (hb : IntsAt w b cb ys) (hm : ys.length ≤ 1048576)
include ha hn hb hm
set_option maxHeartbeats 2000000 in
theorem implBigIntAdd_own : Calls Tryd.prog 44 #[.agg #[.bool n, .slice a xs.length ca], .agg #[.bool m, .slice b ys.length cb]] w fun e w' => ∃ p c', e = .returned (.agg #[.bool (bigAddI n xs m ys).neg, .slice p (bigAddI n xs m ys).mag.length c']) ∧
    OwnI w' w.heap.size w'.heap.size (.slice p (bigAddI n xs m ys).mag.length c') (bigAddI n xs m ys).mag ∧ Below w.heap.size w w' := by
  have HA := Lib.hid ha
  have HB := Lib.hid hb
  clear ha hb
  by_cases h1 : bigOkB n xs = true
  · by_cases h2 : bigOkB m ys = true
    · rw [bigAddI_yes h1 h2]
      have HL := Lib.hid (ok_len (bigOk_nat h1))
      have HM := Lib.hid (ok_len (bigOk_nat h2))
      have HX := Lib.hid (ok_rng (bigOk_nat h1))
      have HY := Lib.hid (ok_rng (bigOk_nat h2))
      have DX := Lib.hid (ok_digs (bigOk_nat h1))
      have DY := Lib.hid (ok_digs (bigOk_nat h2))
      go_enter Tryd.func44, Tryd.ntmps44
      go_wp2_with fail
      refine (implBigIntOk_any n a ca xs _ (HA.out.below (ba3 _ _ _ _)) hn).mono ?_
      rintro e W23 ⟨rfl, b23⟩
      have Rx := bx3_0 b23
      have Ry := bx3_1 b23
      have Rr := bx3_2 b23
      have B := Lib.hid (bstep (ba3 _ _ _ _) b23)
      have sb23 := b23.size
      try simp at sb23
      have Yx0 := Rx.cell 0 rfl
      have Yx1 := Rx.cell 1 rfl
      have Lx := Rx.lt
      have Yy0 := Ry.cell 0 rfl
      have Yy1 := Ry.cell 1 rfl
      have Ly := Ry.lt
      have Yr0 := Rr.cell 0 rfl
      have Yr1 := Rr.cell 1 rfl
      have Lr := Rr.lt
      have Fr0 := Rr.frozen 0
      have Fr1 := Rr.frozen 1
      clear b23
      go_wp2_with fail
      refine (implBigIntOk_any m b cb ys _ (HB.out.below B.out) hm).mono ?_
      rintro e W24 ⟨rfl, b24⟩
      clear Yx0 Yx1 Lx Yy0 Yy1 Ly Yr0 Yr1 Lr Fr0 Fr1
      have Rx := box_step Rx b24
      have Ry := box_step Ry b24
      have Rr := box_step Rr b24
      have B := Lib.hid (bstep B.out b24)
      have sb24 := b24.size
      have Yx0 := Rx.cell 0 rfl
      have Yx1 := Rx.cell 1 rfl
      have Lx := Rx.lt
      have Yy0 := Ry.cell 0 rfl
      have Yy1 := Ry.cell 1 rfl
      have Ly := Ry.lt
      have Yr0 := Rr.cell 0 rfl
      have Yr1 := Rr.cell 1 rfl
      have Lr := Rr.lt
      have Fr0 := Rr.frozen 0
      have Fr1 := Rr.frozen 1
      clear b24
      go_wp2_with fail
      refine (bigAdd_any n a ca xs m b cb ys _ (HA.out.below B.out) (by have := HL.out; omega) (HB.out.below B.out) (by have := HM.out; omega) DX.out DY.out).mono ?_
      rintro e W25 ⟨p, c', rfl, hO, b25⟩
      clear Yx0 Yx1 Lx Yy0 Yy1 Ly Yr0 Yr1 Lr Fr0 Fr1
      have Rx := box_step Rx b25
      have Ry := box_step Ry b25
      have Rr := box_step Rr b25
      have B := Lib.hid (bstep B.out b25)
      have sb25 := b25.size
      have O := Lib.hid hO
      clear hO
      have Yx0 := Rx.cell 0 rfl
      have Yx1 := Rx.cell 1 rfl
      have Lx := Rx.lt
      have Yy0 := Ry.cell 0 rfl
      have Yy1 := Ry.cell 1 rfl
      have Ly := Ry.lt
      have Yr0 := Rr.cell 0 rfl
      have Yr1 := Rr.cell 1 rfl
      have Lr := Rr.lt
      have Fr0 := Rr.frozen 0
      have Fr1 := Rr.frozen 1
      clear b25
      go_wp2_with fail
      refine (ifBigInt_any _ p c' _).mono ?_
      rintro e W26 ⟨p2, c2, rfl, hcap, b26⟩
      clear Yx0 Yx1 Lx Yy0 Yy1 Ly Yr0 Yr1 Lr Fr0 Fr1
      have Rx := box_step Rx b26
      have Ry := box_step Ry b26
      have Rr := box_step Rr b26
      have B := Lib.hid (bstep B.out b26)
      have O := Lib.hid (O.out.below b26)
      have sb26 := b26.size
      have Yx0 := Rx.cell 0 rfl
      have Yx1 := Rx.cell 1 rfl
      have Lx := Rx.lt
      have Yy0 := Ry.cell 0 rfl
      have Yy1 := Ry.cell 1 rfl
      have Ly := Ry.lt
      have Yr0 := Rr.cell 0 rfl
      have Yr1 := Rr.cell 1 rfl
      have Lr := Rr.lt
      have Fr0 := Rr.frozen 0
      have Fr1 := Rr.frozen 1
      clear b26
      have Q := Lib.hid (hcap _ _ _ O.out)
      clear hcap
      go_wp2
      refine bodyPost_ret (v := .agg #[.bool (capI (toI n xs + toI m ys)).neg, .slice p2 (capI (toI n xs + toI m ys)).mag.length c2]) (by simp [results, Tryd.results44, go_sem, Yr0, Yr1, Lr]) rfl ⟨p2, c2, rfl, big_endR (by first | omega | (simp; done) | (simp; omega)) (by first | omega | (simp; done) | (simp; omega)) Q.out (by first | omega | (simp; done) | (simp; omega)) B.out _ _⟩
    · have h2' := Bool.eq_false_iff.2 h2
      rw [bigAddI_no2 h2']
      dsimp only [List.length_nil]
      go_enter Tryd.func44, Tryd.ntmps44
      go_wp2_with fail
      refine (implBigIntOk_any n a ca xs _ (HA.out.below (ba3 _ _ _ _)) hn).mono ?_
      rintro e W27 ⟨rfl, b27⟩
      have Rx := bx3_0 b27
      have Ry := bx3_1 b27
      have Rr := bx3_2 b27
      have B := Lib.hid (bstep (ba3 _ _ _ _) b27)
      have sb27 := b27.size
      try simp at sb27
      have Yx0 := Rx.cell 0 rfl
      have Yx1 := Rx.cell 1 rfl
      have Lx := Rx.lt
      have Yy0 := Ry.cell 0 rfl
      have Yy1 := Ry.cell 1 rfl
      have Ly := Ry.lt
      have Yr0 := Rr.cell 0 rfl
      have Yr1 := Rr.cell 1 rfl
      have Lr := Rr.lt
      have Fr0 := Rr.frozen 0
      have Fr1 := Rr.frozen 1
      clear b27
      go_wp2_with fail
      refine (implBigIntOk_any m b cb ys _ (HB.out.below B.out) hm).mono ?_
      rintro e W28 ⟨rfl, b28⟩
      clear Yx0 Yx1 Lx Yy0 Yy1 Ly Yr0 Yr1 Lr Fr0 Fr1
      have Rx := box_step Rx b28
      have Ry := box_step Ry b28
      have Rr := box_step Rr b28
      have B := Lib.hid (bstep B.out b28)
      have sb28 := b28.size
      have Yx0 := Rx.cell 0 rfl
      have Yx1 := Rx.cell 1 rfl
      have Lx := Rx.lt
      have Yy0 := Ry.cell 0 rfl
      have Yy1 := Ry.cell 1 rfl
      have Ly := Ry.lt
      have Yr0 := Rr.cell 0 rfl
      have Yr1 := Rr.cell 1 rfl
      have Lr := Rr.lt
      have Fr0 := Rr.frozen 0
      have Fr1 := Rr.frozen 1
      clear b28
      go_wp2
      refine bodyPost_ret (v := .agg #[.bool false, .slice none 0 0]) (by simp [results, Tryd.results44, go_sem, Yr0, Yr1, Lr]) rfl ⟨none, 0, rfl, zero_endR (by first | omega | (simp; done) | (simp; omega)) B.out _ _⟩
  · have h1' := Bool.eq_false_iff.2 h1
    rw [bigAddI_no1 h1']
    dsimp only [List.length_nil]
    go_enter Tryd.func44, Tryd.ntmps44
    go_wp2_with fail
    refine (implBigIntOk_any n a ca xs _ (HA.out.below (ba3 _ _ _ _)) hn).mono ?_
    rintro e W29 ⟨rfl, b29⟩
    have Rx := bx3_0 b29
    have Ry := bx3_1 b29
    have Rr := bx3_2 b29
    have B := Lib.hid (bstep (ba3 _ _ _ _) b29)
    have sb29 := b29.size
    try simp at sb29
    have Yx0 := Rx.cell 0 rfl
    have Yx1 := Rx.cell 1 rfl
    have Lx := Rx.lt
    have Yy0 := Ry.cell 0 rfl
    have Yy1 := Ry.cell 1 rfl
    have Ly := Ry.lt
    have Yr0 := Rr.cell 0 rfl
    have Yr1 := Rr.cell 1 rfl
    have Lr := Rr.lt
    have Fr0 := Rr.frozen 0
    have Fr1 := Rr.frozen 1
    clear b29
    go_wp2
    refine bodyPost_ret (v := .agg #[.bool false, .slice none 0 0]) (by simp [results, Tryd.results44, go_sem, Yr0, Yr1, Lr]) rfl ⟨none, 0, rfl, zero_endR (by first | omega | (simp; done) | (simp; omega)) B.out _ _⟩
theorem implBigIntAdd_any : Calls Tryd.prog 44 #[.agg #[.bool n, .slice a xs.length ca], .agg #[.bool m, .slice b ys.length cb]] w fun e w' => ∃ p c', e = .returned (.agg #[.bool (bigAddI n xs m ys).neg, .slice p (bigAddI n xs m ys).mag.length c']) ∧
    OwnI w' w.heap.size w'.heap.size (.slice p (bigAddI n xs m ys).mag.length c') (bigAddI n xs m ys).mag ∧ Below w.heap.size w w' :=
  implBigIntAdd_own n a ca xs m b cb ys w ha hn hb hm
set_option maxHeartbeats 2000000 in
theorem implBigIntSub_own : Calls Tryd.prog 46 #[.agg #[.bool n, .slice a xs.length ca], .agg #[.bool m, .slice b ys.length cb]] w fun e w' => ∃ p c', e = .returned (.agg #[.bool (bigSubI n xs m ys).neg, .slice p (bigSubI n xs m ys).mag.length c']) ∧
    OwnI w' w.heap.size w'.heap.size (.slice p (bigSubI n xs m ys).mag.length c') (bigSubI n xs m ys).mag ∧ Below w.heap.size w w' := by
  have HA := Lib.hid ha
  have HB := Lib.hid hb
  clear ha hb
  by_cases h1 : bigOkB n xs = true
  · by_cases h2 : bigOkB m ys = true
    · rw [bigSubI_yes h1 h2]
      have HL := Lib.hid (ok_len (bigOk_nat h1))
      have HM := Lib.hid (ok_len (bigOk_nat h2))
      have HX := Lib.hid (ok_rng (bigOk_nat h1))
      have HY := Lib.hid (ok_rng (bigOk_nat h2))
      have DX := Lib.hid (ok_digs (bigOk_nat h1))
      have DY := Lib.hid (ok_digs (bigOk_nat h2))
      have hz := bigNeg_toI h2
      have HZ := Lib.hid hz
      have HG : Hid (toI (bigNeg m ys).neg (bigNeg m ys).mag = -toI m ys) := by rw [Hid, hz, toI_ofI]
      have HD : Hid (digs (val (bigNeg m ys).mag) = (bigNeg m ys).mag) := by rw [Hid, bigNeg_ok h2]; exact ok_digs (bigOk_nat h2)
      have HF : Hid ((bigNeg m ys).mag.length ≤ 500000) := by have := ok_len (bigOk_nat h2); rw [Hid, bigNeg_ok h2]; show ys.length ≤ _; omega
      rw [Int.sub_eq_add_neg, ← HG.out]
      clear hz
      go_enter Tryd.func46, Tryd.ntmps46
      go_wp2_with fail
      refine (implBigIntOk_any n a ca xs _ (HA.out.below (ba3 _ _ _ _)) hn).mono ?_
      rintro e W37 ⟨rfl, b37⟩
      have Rx := bx3_0 b37
      have Ry := bx3_1 b37
      have Rr := bx3_2 b37
      have B := Lib.hid (bstep (ba3 _ _ _ _) b37)
      have sb37 := b37.size
      try simp at sb37
      have Yx0 := Rx.cell 0 rfl
      have Yx1 := Rx.cell 1 rfl
      have Lx := Rx.lt
      have Yy0 := Ry.cell 0 rfl
      have Yy1 := Ry.cell 1 rfl
      have Ly := Ry.lt
      have Yr0 := Rr.cell 0 rfl
      have Yr1 := Rr.cell 1 rfl
      have Lr := Rr.lt
      have Fr0 := Rr.frozen 0
      have Fr1 := Rr.frozen 1
      clear b37
      go_wp2_with fail
      refine (implBigIntOk_any m b cb ys _ (HB.out.below B.out) hm).mono ?_
      rintro e W38 ⟨rfl, b38⟩
      clear Yx0 Yx1 Lx Yy0 Yy1 Ly Yr0 Yr1 Lr Fr0 Fr1
      have Rx := box_step Rx b38
      have Ry := box_step Ry b38
      have Rr := box_step Rr b38
      have B := Lib.hid (bstep B.out b38)
      have sb38 := b38.size
      have Yx0 := Rx.cell 0 rfl
      have Yx1 := Rx.cell 1 rfl
      have Lx := Rx.lt
      have Yy0 := Ry.cell 0 rfl
      have Yy1 := Ry.cell 1 rfl
      have Ly := Ry.lt
      have Yr0 := Rr.cell 0 rfl
      have Yr1 := Rr.cell 1 rfl
      have Lr := Rr.lt
      have Fr0 := Rr.frozen 0
      have Fr1 := Rr.frozen 1
      clear b38
      go_wp2_with fail
      go_region_held3 (fun w' => w'.cell? ⟨w.heap.size, 0, none⟩ = some (.bool n) ∧ w'.cell? ⟨w.heap.size, 1, none⟩ = some (.slice a xs.length ca) ∧ w'.cell? ⟨w.heap.size + 1, 0, none⟩ = some (.bool m) ∧ w'.cell? ⟨w.heap.size + 1, 1, none⟩ = some (.slice b ys.length cb))
        ((first | exact ⟨Yx0, Yx1, Yy0, Yy1⟩ | exact ⟨cell_stepD Yx0 b39, cell_stepD Yx1 b39, cell_stepD Yy0 b39, cell_stepD Yy1 b39⟩ | exact ⟨cell_step (cell_stepD Yx0 b39) b40, cell_step (cell_stepD Yx1 b39) b40, cell_step (cell_stepD Yy0 b39) b40, cell_step (cell_stepD Yy1 b39) b40⟩ | exact ⟨cell_step (cell_step (cell_stepD Yx0 b39) b40) b41, cell_step (cell_step (cell_stepD Yx1 b39) b40) b41, cell_step (cell_step (cell_stepD Yy0 b39) b40) b41, cell_step (cell_step (cell_stepD Yy1 b39) b40) b41⟩ | exact ⟨cell_low (cell_low (cell_step (cell_step (cell_stepD Yx0 b39) b40) b41) (by first | (simp; done) | (simp; omega) | omega)) (by first | (simp; done) | (simp; omega) | omega), cell_low (cell_low (cell_step (cell_step (cell_stepD Yx1 b39) b40) b41) (by first | (simp; done) | (simp; omega) | omega)) (by first | (simp; done) | (simp; omega) | omega), cell_low (cell_low (cell_step (cell_step (cell_stepD Yy0 b39) b40) b41) (by first | (simp; done) | (simp; omega) | omega)) (by first | (simp; done) | (simp; omega) | omega), cell_low (cell_low (cell_step (cell_step (cell_stepD Yy1 b39) b40) b41) (by first | (simp; done) | (simp; omega) | omega)) (by first | (simp; done) | (simp; omega) | omega)⟩))
        (first | (go_at_call 90; refine (implBigIntNeg_any m b cb ys _ (HB.out.below (B.out.drew)) hm).mono ?_; rintro e W39 ⟨p, c', rfl, hO, b39⟩; have s39 := b39.size; (try simp at s39)) | (go_at_call 88; refine (bigAdd_any n a ca xs (bigNeg m ys).neg p c' (bigNeg m ys).mag _ (HA.out.below (bstepD B.out b39)) (by have := HL.out; omega) hO.ints HF.out DX.out HD.out).mono ?_; rintro e W40 ⟨p2, c2, rfl, hQ, b40⟩; have s40 := b40.size; (try simp at s40)) | (go_at_call 87; refine (ifBigInt_any (toI n xs + toI (bigNeg m ys).neg (bigNeg m ys).mag) p2 c2 _).mono ?_; rintro e W41 ⟨p3, c3, rfl, hcap, b41⟩; have s41 := b41.size; (try simp at s41); have Rr := (box_step (box_step (box_step (box_drew Rr) b39) b40) b41); have Yr0 := Rr.cell 0 rfl; have Fr0 := Rr.frozen 0; have Yr1 := Rr.cell 1 rfl; have Fr1 := Rr.frozen 1; have Lr := Rr.lt))
      have sb39 := b39.size
      try simp at sb39
      have sb40 := b40.size
      have sb41 := b41.size
      have O := Lib.hid (((hO.below b40).below b41))
      clear hO
      have Q := Lib.hid ((hQ.below b41))
      clear hQ
      have B := Lib.hid (bstep (bstep (bstepD B.out b39) b40) b41)
      clear b39 b40 b41
      have U := Lib.hid (hcap _ _ _ Q.out)
      clear hcap
      go_wp2
      refine bodyPost_ret (v := .agg #[.bool (capI (toI n xs + toI (bigNeg m ys).neg (bigNeg m ys).mag)).neg, .slice p3 (capI (toI n xs + toI (bigNeg m ys).neg (bigNeg m ys).mag)).mag.length c3]) (by simp [results, Tryd.results46, go_sem, Yr0, Yr1, Lr]) rfl ⟨p3, c3, rfl, big_endR (by first | omega | (simp; done) | (simp; omega)) (by first | omega | (simp; done) | (simp; omega)) U.out (by first | omega | (simp; done) | (simp; omega)) B.out _ _⟩
    · have h2' := Bool.eq_false_iff.2 h2
      rw [bigSubI_no2 h2']
      dsimp only [List.length_nil]
      go_enter Tryd.func46, Tryd.ntmps46
      go_wp2_with fail
      refine (implBigIntOk_any n a ca xs _ (HA.out.below (ba3 _ _ _ _)) hn).mono ?_
      rintro e W42 ⟨rfl, b42⟩
      have Rx := bx3_0 b42
      have Ry := bx3_1 b42
      have Rr := bx3_2 b42
      have B := Lib.hid (bstep (ba3 _ _ _ _) b42)
      have sb42 := b42.size
      try simp at sb42
      have Yx0 := Rx.cell 0 rfl
      have Yx1 := Rx.cell 1 rfl
      have Lx := Rx.lt
      have Yy0 := Ry.cell 0 rfl
      have Yy1 := Ry.cell 1 rfl
      have Ly := Ry.lt
      have Yr0 := Rr.cell 0 rfl
      have Yr1 := Rr.cell 1 rfl
      have Lr := Rr.lt
      have Fr0 := Rr.frozen 0
      have Fr1 := Rr.frozen 1
      clear b42
      go_wp2_with fail
      refine (implBigIntOk_any m b cb ys _ (HB.out.below B.out) hm).mono ?_
      rintro e W43 ⟨rfl, b43⟩
      clear Yx0 Yx1 Lx Yy0 Yy1 Ly Yr0 Yr1 Lr Fr0 Fr1
      have Rx := box_step Rx b43
      have Ry := box_step Ry b43
      have Rr := box_step Rr b43
      have B := Lib.hid (bstep B.out b43)
      have sb43 := b43.size
      have Yx0 := Rx.cell 0 rfl
      have Yx1 := Rx.cell 1 rfl
      have Lx := Rx.lt
      have Yy0 := Ry.cell 0 rfl
      have Yy1 := Ry.cell 1 rfl
      have Ly := Ry.lt
      have Yr0 := Rr.cell 0 rfl
      have Yr1 := Rr.cell 1 rfl
      have Lr := Rr.lt
      have Fr0 := Rr.frozen 0
      have Fr1 := Rr.frozen 1
      clear b43
      go_wp2
      refine bodyPost_ret (v := .agg #[.bool false, .slice none 0 0]) (by simp [results, Tryd.results46, go_sem, Yr0, Yr1, Lr]) rfl ⟨none, 0, rfl, zero_endR (by first | omega | (simp; done) | (simp; omega)) B.out _ _⟩
  · have h1' := Bool.eq_false_iff.2 h1
    rw [bigSubI_no1 h1']
    dsimp only [List.length_nil]
    go_enter Tryd.func46, Tryd.ntmps46
    go_wp2_with fail
    refine (implBigIntOk_any n a ca xs _ (HA.out.below (ba3 _ _ _ _)) hn).mono ?_
    rintro e W44 ⟨rfl, b44⟩
    have Rx := bx3_0 b44
    have Ry := bx3_1 b44
    have Rr := bx3_2 b44
    have B := Lib.hid (bstep (ba3 _ _ _ _) b44)
    have sb44 := b44.size
    try simp at sb44
    have Yx0 := Rx.cell 0 rfl
    have Yx1 := Rx.cell 1 rfl
    have Lx := Rx.lt
    have Yy0 := Ry.cell 0 rfl
    have Yy1 := Ry.cell 1 rfl
    have Ly := Ry.lt
    have Yr0 := Rr.cell 0 rfl
    have Yr1 := Rr.cell 1 rfl
    have Lr := Rr.lt
    have Fr0 := Rr.frozen 0
    have Fr1 := Rr.frozen 1
    clear b44
    go_wp2
    refine bodyPost_ret (v := .agg #[.bool false, .slice none 0 0]) (by simp [results, Tryd.results46, go_sem, Yr0, Yr1, Lr]) rfl ⟨none, 0, rfl, zero_endR (by first | omega | (simp; done) | (simp; omega)) B.out _ _⟩
theorem implBigIntSub_any : Calls Tryd.prog 46 #[.agg #[.bool n, .slice a xs.length ca], .agg #[.bool m, .slice b ys.length cb]] w fun e w' => ∃ p c', e = .returned (.agg #[.bool (bigSubI n xs m ys).neg, .slice p (bigSubI n xs m ys).mag.length c']) ∧
    OwnI w' w.heap.size w'.heap.size (.slice p (bigSubI n xs m ys).mag.length c') (bigSubI n xs m ys).mag ∧ Below w.heap.size w w' :=
  implBigIntSub_own n a ca xs m b cb ys w ha hn hb hm
end
end Go.Proofs.YtjklefkkdaelnaaDoor
