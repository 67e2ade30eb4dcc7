/- BigIntAdd, BigIntSub. -/
import Derived.Test.YtlpnhcoaidmiiaaBigLaw
import Derived.Test.YtlpnhcoaidmiiaaNatSub
namespace Go.Proofs.Ytlpnhcoaidmiiaa
set_option linter.unusedVariables false
set_option linter.unusedSimpArgs false
open Go.RowKit

theorem natAdd_out (a : Option Addr) (ca : Nat) (xs : List Int) (b : Option Addr) (cb : Nat) (ys : List Int) (w : World) (ha : IntsAt w a ca xs) (hb : IntsAt w b cb ys) (hn : xs.length ≤ 1048576) (hm : ys.length ≤ 1048576) (hx : digs (val xs) = xs) (hy : digs (val ys) = ys) :
    Calls Try.prog 160 #[.slice a xs.length ca, .slice b ys.length cb] w fun e w' => ∃ p c, e = .returned (.slice p (digs (val xs + val ys)).length c) ∧ OwnI w' w.heap.size w'.heap.size (.slice p (digs (val xs + val ys)).length c) (digs (val xs + val ys)) ∧ Below w.heap.size w w' := by
  have h := natAdd_any a ca b cb (val xs) (val ys) w (by rw [hx]; exact ha) (by rw [hy]; exact hb) (by rw [hx]; exact hn) (by rw [hy]; exact hm)
  rw [hx, hy] at h
  exact own_out h
theorem cmp_digs {xs ys : List Int} (hx : digs (val xs) = xs) (hy : digs (val ys) = ys) : cmpL xs ys = cmpN (val xs) (val ys) := by
  have := cmpL_digs (val xs) (val ys)
  rwa [hx, hy] at this
theorem cmp_ge {xs ys : List Int} (hx : digs (val xs) = xs) (hy : digs (val ys) = ys) (h : val ys ≤ val xs) : 0 ≤ cmpL xs ys := by
  rw [cmp_digs hx hy, cmpN, if_neg (by omega)]; split <;> omega
theorem cmp_neg {xs ys : List Int} (hx : digs (val xs) = xs) (hy : digs (val ys) = ys) (h : val xs < val ys) : cmpL xs ys < 0 := by
  rw [cmp_digs hx hy, cmpN, if_pos h]; omega
theorem rng_of {xs : List Int} (h : digs (val xs) = xs) : Rng xs := by rw [← h]; exact digs_rng _
theorem len_of_le {xs ys : List Int} (hx : digs (val xs) = xs) (hy : digs (val ys) = ys) (h : val ys ≤ val xs) : ys.length ≤ xs.length := le_of_cmp (rng_of hx) (rng_of hy) h hy hx
theorem digs_add_len {xs ys : List Int} (hx : Rng xs) (hy : Rng ys) {k : Nat} (h1 : xs.length ≤ k) (h2 : ys.length ≤ k) : (digs (val xs + val ys)).length ≤ k + 1 := by
  have a1 := val_lt hx
  have a2 := val_lt hy
  have b1 := pw_mono h1
  have b2 := pw_mono h2
  exact digs_len_le (by rw [pw_succ]; omega)
theorem digs_sub_len {xs : List Int} (hx : Rng xs) {k m : Nat} (h1 : xs.length ≤ k) : (digs (val xs - m)).length ≤ k := by
  have a1 := val_lt hx
  have b1 := pw_mono h1
  exact digs_len_le (by omega)
/-- what the reference makes of a sum's digits -/
theorem l03Make_val (n : Bool) (N : Nat) (a : Option Addr) (c : Nat) (xs : List Int) (w : World) (ha : IntsAt w a c xs) (hn : xs.length ≤ 1048576) (hr : Rng xs) (hv : val xs = N) :
    Calls Try.prog 126 #[.bool n, .slice a xs.length c] w fun e w' => ∃ b c', e = .returned (.agg #[.bool (mkBI n (capD N)).neg, .slice b (capD N).length c']) ∧
      OwnI w' w.heap.size w'.heap.size (.slice b (capD N).length c') (capD N) ∧ Below w.heap.size w w' := by
  subst hv
  exact l03Make_any n a c xs w ha hn hr
theorem l02Add_out (a : Option Addr) (ca : Nat) (xs : List Int) (b : Option Addr) (cb : Nat) (ys : List Int) (w : World) (ha : IntsAt w a ca xs) (hb : IntsAt w b cb ys) (hn : xs.length ≤ 500000) (hm : ys.length ≤ 500000) (hx : Rng xs) (hy : Rng ys) :
    Calls Try.prog 159 #[.slice a xs.length ca, .slice b ys.length cb] w fun e w' => ∃ ds p c, e = .returned (.slice p ds.length c) ∧ OwnI w' w.heap.size w'.heap.size (.slice p ds.length c) ds ∧ Hid (Rng ds) ∧ Hid (val ds = val xs + val ys) ∧ ds.length ≤ 1048576 ∧ Below w.heap.size w w' :=
  (l02Add_any a ca xs b cb ys w ha hb (by omega) (by omega) hx hy).mono fun _ _ ⟨_, ds, h1, h2, h3, h4, h5, h6⟩ => let ⟨p, c, h7, h8⟩ := h2.out; ⟨ds, p, c, by rw [h1, h7], h8, Lib.hid h4, Lib.hid h5, by omega, h3⟩
section
variable (n : Bool) (a : Option Addr) (ca : Nat) (xs : List Int) (m : Bool) (b : Option Addr) (cb : Nat) (ys : List Int) (w : World) (ha : IntsAt w a ca xs) (hn : xs.length ≤ 500000) (hb : IntsAt w b cb ys) (hm : ys.length ≤ 500000) (hx : digs (val xs) = xs) (hy : digs (val ys) = ys)
include ha hn hb hm hx hy
set_option maxHeartbeats 2000000 in
theorem bigAdd_any : Calls Try.prog 146 #[.agg #[.bool n, .slice a xs.length ca], .agg #[.bool m, .slice b ys.length cb]] w fun e w' => ∃ p c', e = .returned (.agg #[.bool (ofI (toI n xs + toI m ys)).neg, .slice p (ofI (toI n xs + toI m ys)).mag.length c']) ∧
    OwnI w' w.heap.size w'.heap.size (.slice p (ofI (toI n xs + toI m ys)).mag.length c') (ofI (toI n xs + toI m ys)).mag ∧ Below w.heap.size w w' := by
  have HA := Lib.hid ha
  have HB := Lib.hid hb
  have HX := Lib.hid hx
  have HY := Lib.hid hy
  have RX := Lib.hid (rng_of hx)
  have RY := Lib.hid (rng_of hy)
  clear ha hb hx hy
  by_cases h1 : n = m
  · subst h1
    rw [toI_same, ← mkBI_any]
    have Rx : Box (((w.alloc (.cells #[.bool n, .slice a xs.length ca] 24)).alloc (.cells #[.bool n, .slice b ys.length cb] 24)).alloc (.cells #[.bool false, .slice none 0 0] 24)) (w.heap.size) #[.bool n, .slice a xs.length ca] := bx3_0 (Below.refl _ _)
    have Ry : Box (((w.alloc (.cells #[.bool n, .slice a xs.length ca] 24)).alloc (.cells #[.bool n, .slice b ys.length cb] 24)).alloc (.cells #[.bool false, .slice none 0 0] 24)) (w.heap.size + 1) #[.bool n, .slice b ys.length cb] := bx3_1 (Below.refl _ _)
    have Rr : Box (((w.alloc (.cells #[.bool n, .slice a xs.length ca] 24)).alloc (.cells #[.bool n, .slice b ys.length cb] 24)).alloc (.cells #[.bool false, .slice none 0 0] 24)) (w.heap.size + 2) #[.bool false, .slice none 0 0] := bx3_2 (Below.refl _ _)
    have B : Hid (Below w.heap.size w (((w.alloc (.cells #[.bool n, .slice a xs.length ca] 24)).alloc (.cells #[.bool n, .slice b ys.length cb] 24)).alloc (.cells #[.bool false, .slice none 0 0] 24))) := Lib.hid (ba3 _ _ _ _)
    have Yx0 : (((w.alloc (.cells #[.bool n, .slice a xs.length ca] 24)).alloc (.cells #[.bool n, .slice b ys.length cb] 24)).alloc (.cells #[.bool false, .slice none 0 0] 24)).cell? ⟨w.heap.size, 0, none⟩ = some (.bool n) := Rx.cell 0 rfl
    have Yx1 : (((w.alloc (.cells #[.bool n, .slice a xs.length ca] 24)).alloc (.cells #[.bool n, .slice b ys.length cb] 24)).alloc (.cells #[.bool false, .slice none 0 0] 24)).cell? ⟨w.heap.size, 1, none⟩ = some (.slice a xs.length ca) := Rx.cell 1 rfl
    have Yy0 : (((w.alloc (.cells #[.bool n, .slice a xs.length ca] 24)).alloc (.cells #[.bool n, .slice b ys.length cb] 24)).alloc (.cells #[.bool false, .slice none 0 0] 24)).cell? ⟨w.heap.size + 1, 0, none⟩ = some (.bool n) := Ry.cell 0 rfl
    have Yy1 : (((w.alloc (.cells #[.bool n, .slice a xs.length ca] 24)).alloc (.cells #[.bool n, .slice b ys.length cb] 24)).alloc (.cells #[.bool false, .slice none 0 0] 24)).cell? ⟨w.heap.size + 1, 1, none⟩ = some (.slice b ys.length cb) := Ry.cell 1 rfl
    have Yr0 : (((w.alloc (.cells #[.bool n, .slice a xs.length ca] 24)).alloc (.cells #[.bool n, .slice b ys.length cb] 24)).alloc (.cells #[.bool false, .slice none 0 0] 24)).cell? ⟨w.heap.size + 2, 0, none⟩ = some (.bool false) := Rr.cell 0 rfl
    have Yr1 : (((w.alloc (.cells #[.bool n, .slice a xs.length ca] 24)).alloc (.cells #[.bool n, .slice b ys.length cb] 24)).alloc (.cells #[.bool false, .slice none 0 0] 24)).cell? ⟨w.heap.size + 2, 1, none⟩ = some (.slice none 0 0) := Rr.cell 1 rfl
    go_enter Try.func146, Try.ntmps146
    go_wp2_with fail
    go_region_held3 (fun w' => w'.cell? ⟨w.heap.size, 0, none⟩ = some (.bool n) ∧ w'.cell? ⟨w.heap.size, 1, none⟩ = some (.slice a xs.length ca) ∧ w'.cell? ⟨w.heap.size + 1, 0, none⟩ = some (.bool n) ∧ w'.cell? ⟨w.heap.size + 1, 1, none⟩ = some (.slice b ys.length cb))
      ((first | exact ⟨Yx0, Yx1, Yy0, Yy1⟩ | exact ⟨cell_stepD Yx0 b1, cell_stepD Yx1 b1, cell_stepD Yy0 b1, cell_stepD Yy1 b1⟩ | exact ⟨cell_step (cell_stepD Yx0 b1) b2, cell_step (cell_stepD Yx1 b1) b2, cell_step (cell_stepD Yy0 b1) b2, cell_step (cell_stepD Yy1 b1) b2⟩ | exact ⟨cell_low (cell_low (cell_step (cell_stepD Yx0 b1) b2) (by first | (simp; done) | (simp; omega) | omega)) (by first | (simp; done) | (simp; omega) | omega), cell_low (cell_low (cell_step (cell_stepD Yx1 b1) b2) (by first | (simp; done) | (simp; omega) | omega)) (by first | (simp; done) | (simp; omega) | omega), cell_low (cell_low (cell_step (cell_stepD Yy0 b1) b2) (by first | (simp; done) | (simp; omega) | omega)) (by first | (simp; done) | (simp; omega) | omega), cell_low (cell_low (cell_step (cell_stepD Yy1 b1) b2) (by first | (simp; done) | (simp; omega) | omega)) (by first | (simp; done) | (simp; omega) | omega)⟩))
      (first | (go_at_call 160; refine (natAdd_out a ca xs b cb ys _ (HA.out.below (B.out.drew)) (HB.out.below (B.out.drew)) (by omega) (by omega) HX.out HY.out).mono ?_; rintro e W1 ⟨p, c', rfl, hO, b1⟩; have s1 := b1.size; (try simp at s1)) | (go_at_call 109; refine (signed_any n p (digs (val xs + val ys)).length c' _).mono ?_; rintro e W2 ⟨rfl, b2⟩; have s2 := b2.size; (try simp at s2); have Rr := (box_step (box_step (box_drew Rr) b1) b2); have Yr0 := Rr.cell 0 rfl; have Fr0 := Rr.frozen 0; have Yr1 := Rr.cell 1 rfl; have Fr1 := Rr.frozen 1; have Lr := Rr.lt))
    have sb1 := b1.size
    try simp at sb1
    have sb2 := b2.size
    have O := Lib.hid ((hO.below b2))
    clear hO
    have B := Lib.hid (bstep (bstepD B.out b1) b2)
    clear b1 b2
    go_wp2
    refine bodyPost_ret (v := .agg #[.bool (mkBI n (digs (val xs + val ys))).neg, .slice p (digs (val xs + val ys)).length c']) (by simp [results, Try.results146, go_sem, Yr0, Yr1, Lr, mkBI]) rfl ⟨p, c', rfl, big_endR (by first | omega | (simp; done) | (simp; omega)) (by first | omega | (simp; done) | (simp; omega)) O.out (by first | omega | (simp; done) | (simp; omega)) B.out _ _⟩
  · have hne : (n == m) = false := beq_eq_false_iff_ne.2 h1
    by_cases h2 : val ys ≤ val xs
    · rw [toI_first h1 h2, ← mkBI_any]
      have hc := cmp_ge HX.out HY.out h2
      have HL := Lib.hid (len_of_le HX.out HY.out h2)
      have H2 := Lib.hid h2
      clear h1 h2
      have Rx : Box (((w.alloc (.cells #[.bool n, .slice a xs.length ca] 24)).alloc (.cells #[.bool m, .slice b ys.length cb] 24)).alloc (.cells #[.bool false, .slice none 0 0] 24)) (w.heap.size) #[.bool n, .slice a xs.length ca] := bx3_0 (Below.refl _ _)
      have Ry : Box (((w.alloc (.cells #[.bool n, .slice a xs.length ca] 24)).alloc (.cells #[.bool m, .slice b ys.length cb] 24)).alloc (.cells #[.bool false, .slice none 0 0] 24)) (w.heap.size + 1) #[.bool m, .slice b ys.length cb] := bx3_1 (Below.refl _ _)
      have Rr : Box (((w.alloc (.cells #[.bool n, .slice a xs.length ca] 24)).alloc (.cells #[.bool m, .slice b ys.length cb] 24)).alloc (.cells #[.bool false, .slice none 0 0] 24)) (w.heap.size + 2) #[.bool false, .slice none 0 0] := bx3_2 (Below.refl _ _)
      have B : Hid (Below w.heap.size w (((w.alloc (.cells #[.bool n, .slice a xs.length ca] 24)).alloc (.cells #[.bool m, .slice b ys.length cb] 24)).alloc (.cells #[.bool false, .slice none 0 0] 24))) := Lib.hid (ba3 _ _ _ _)
      have Yx0 : (((w.alloc (.cells #[.bool n, .slice a xs.length ca] 24)).alloc (.cells #[.bool m, .slice b ys.length cb] 24)).alloc (.cells #[.bool false, .slice none 0 0] 24)).cell? ⟨w.heap.size, 0, none⟩ = some (.bool n) := Rx.cell 0 rfl
      have Yx1 : (((w.alloc (.cells #[.bool n, .slice a xs.length ca] 24)).alloc (.cells #[.bool m, .slice b ys.length cb] 24)).alloc (.cells #[.bool false, .slice none 0 0] 24)).cell? ⟨w.heap.size, 1, none⟩ = some (.slice a xs.length ca) := Rx.cell 1 rfl
      have Yy0 : (((w.alloc (.cells #[.bool n, .slice a xs.length ca] 24)).alloc (.cells #[.bool m, .slice b ys.length cb] 24)).alloc (.cells #[.bool false, .slice none 0 0] 24)).cell? ⟨w.heap.size + 1, 0, none⟩ = some (.bool m) := Ry.cell 0 rfl
      have Yy1 : (((w.alloc (.cells #[.bool n, .slice a xs.length ca] 24)).alloc (.cells #[.bool m, .slice b ys.length cb] 24)).alloc (.cells #[.bool false, .slice none 0 0] 24)).cell? ⟨w.heap.size + 1, 1, none⟩ = some (.slice b ys.length cb) := Ry.cell 1 rfl
      have Yr0 : (((w.alloc (.cells #[.bool n, .slice a xs.length ca] 24)).alloc (.cells #[.bool m, .slice b ys.length cb] 24)).alloc (.cells #[.bool false, .slice none 0 0] 24)).cell? ⟨w.heap.size + 2, 0, none⟩ = some (.bool false) := Rr.cell 0 rfl
      have Yr1 : (((w.alloc (.cells #[.bool n, .slice a xs.length ca] 24)).alloc (.cells #[.bool m, .slice b ys.length cb] 24)).alloc (.cells #[.bool false, .slice none 0 0] 24)).cell? ⟨w.heap.size + 2, 1, none⟩ = some (.slice none 0 0) := Rr.cell 1 rfl
      go_enter Try.func146, Try.ntmps146
      go_wp2_with fail
      refine (natCmp_any a ca xs b cb ys _ (HA.out.below B.out) (HB.out.below B.out) (by omega) (by omega)).mono ?_
      rintro e W3 ⟨rfl, b3⟩
      clear Yx0 Yx1 Yy0 Yy1 Yr0 Yr1
      have Rx := box_step Rx b3
      have Ry := box_step Ry b3
      have Rr := box_step Rr b3
      have B := Lib.hid (bstep B.out b3)
      have sb3 := b3.size
      have Yx0 := Rx.cell 0 rfl
      have Yx1 := Rx.cell 1 rfl
      have Lx := Rx.lt
      have Yy0 := Ry.cell 0 rfl
      have Yy1 := Ry.cell 1 rfl
      have Ly := Ry.lt
      have Yr0 := Rr.cell 0 rfl
      have Yr1 := Rr.cell 1 rfl
      have Lr := Rr.lt
      have Fr0 := Rr.frozen 0
      have Fr1 := Rr.frozen 1
      clear b3
      go_wp2_with fail
      go_region_held3 (fun w' => w'.cell? ⟨w.heap.size, 0, none⟩ = some (.bool n) ∧ w'.cell? ⟨w.heap.size, 1, none⟩ = some (.slice a xs.length ca) ∧ w'.cell? ⟨w.heap.size + 1, 0, none⟩ = some (.bool m) ∧ w'.cell? ⟨w.heap.size + 1, 1, none⟩ = some (.slice b ys.length cb))
        ((first | exact ⟨Yx0, Yx1, Yy0, Yy1⟩ | exact ⟨cell_stepD Yx0 b4, cell_stepD Yx1 b4, cell_stepD Yy0 b4, cell_stepD Yy1 b4⟩ | exact ⟨cell_step (cell_stepD Yx0 b4) b5, cell_step (cell_stepD Yx1 b4) b5, cell_step (cell_stepD Yy0 b4) b5, cell_step (cell_stepD Yy1 b4) b5⟩ | exact ⟨cell_low (cell_low (cell_step (cell_stepD Yx0 b4) b5) (by first | (simp; done) | (simp; omega) | omega)) (by first | (simp; done) | (simp; omega) | omega), cell_low (cell_low (cell_step (cell_stepD Yx1 b4) b5) (by first | (simp; done) | (simp; omega) | omega)) (by first | (simp; done) | (simp; omega) | omega), cell_low (cell_low (cell_step (cell_stepD Yy0 b4) b5) (by first | (simp; done) | (simp; omega) | omega)) (by first | (simp; done) | (simp; omega) | omega), cell_low (cell_low (cell_step (cell_stepD Yy1 b4) b5) (by first | (simp; done) | (simp; omega) | omega)) (by first | (simp; done) | (simp; omega) | omega)⟩))
        (first | (go_at_call 161; refine (own_out (natSub_any a ca xs b cb ys _ (HA.out.below (B.out.drew)) (HB.out.below (B.out.drew)) (by omega) HL.out RX.out RY.out H2.out)).mono ?_; rintro e W4 ⟨p, c', rfl, hO, b4⟩; have s4 := b4.size; (try simp at s4)) | (go_at_call 109; refine (signed_any n p (digs (val xs - val ys)).length c' _).mono ?_; rintro e W5 ⟨rfl, b5⟩; have s5 := b5.size; (try simp at s5); have Rr := (box_step (box_step (box_drew Rr) b4) b5); have Yr0 := Rr.cell 0 rfl; have Fr0 := Rr.frozen 0; have Yr1 := Rr.cell 1 rfl; have Fr1 := Rr.frozen 1; have Lr := Rr.lt))
      have sb4 := b4.size
      try simp at sb4
      have sb5 := b5.size
      have O := Lib.hid ((hO.below b5))
      clear hO
      have B := Lib.hid (bstep (bstepD B.out b4) b5)
      clear b4 b5
      go_wp2
      refine bodyPost_ret (v := .agg #[.bool (mkBI n (digs (val xs - val ys))).neg, .slice p (digs (val xs - val ys)).length c']) (by simp [results, Try.results146, go_sem, Yr0, Yr1, Lr, mkBI]) rfl ⟨p, c', rfl, big_endR (by first | omega | (simp; done) | (simp; omega)) (by first | omega | (simp; done) | (simp; omega)) O.out (by first | omega | (simp; done) | (simp; omega)) B.out _ _⟩
    · have h3 : val xs < val ys := by omega
      rw [toI_second h1 (by omega), ← mkBI_any]
      have hc := cmp_neg HX.out HY.out h3
      have HL := Lib.hid (len_of_le HY.out HX.out (by omega))
      have H2 : Hid (val xs ≤ val ys) := by unfold Hid; omega
      clear h1 h2 h3
      have Rx : Box (((w.alloc (.cells #[.bool n, .slice a xs.length ca] 24)).alloc (.cells #[.bool m, .slice b ys.length cb] 24)).alloc (.cells #[.bool false, .slice none 0 0] 24)) (w.heap.size) #[.bool n, .slice a xs.length ca] := bx3_0 (Below.refl _ _)
      have Ry : Box (((w.alloc (.cells #[.bool n, .slice a xs.length ca] 24)).alloc (.cells #[.bool m, .slice b ys.length cb] 24)).alloc (.cells #[.bool false, .slice none 0 0] 24)) (w.heap.size + 1) #[.bool m, .slice b ys.length cb] := bx3_1 (Below.refl _ _)
      have Rr : Box (((w.alloc (.cells #[.bool n, .slice a xs.length ca] 24)).alloc (.cells #[.bool m, .slice b ys.length cb] 24)).alloc (.cells #[.bool false, .slice none 0 0] 24)) (w.heap.size + 2) #[.bool false, .slice none 0 0] := bx3_2 (Below.refl _ _)
      have B : Hid (Below w.heap.size w (((w.alloc (.cells #[.bool n, .slice a xs.length ca] 24)).alloc (.cells #[.bool m, .slice b ys.length cb] 24)).alloc (.cells #[.bool false, .slice none 0 0] 24))) := Lib.hid (ba3 _ _ _ _)
      have Yx0 : (((w.alloc (.cells #[.bool n, .slice a xs.length ca] 24)).alloc (.cells #[.bool m, .slice b ys.length cb] 24)).alloc (.cells #[.bool false, .slice none 0 0] 24)).cell? ⟨w.heap.size, 0, none⟩ = some (.bool n) := Rx.cell 0 rfl
      have Yx1 : (((w.alloc (.cells #[.bool n, .slice a xs.length ca] 24)).alloc (.cells #[.bool m, .slice b ys.length cb] 24)).alloc (.cells #[.bool false, .slice none 0 0] 24)).cell? ⟨w.heap.size, 1, none⟩ = some (.slice a xs.length ca) := Rx.cell 1 rfl
      have Yy0 : (((w.alloc (.cells #[.bool n, .slice a xs.length ca] 24)).alloc (.cells #[.bool m, .slice b ys.length cb] 24)).alloc (.cells #[.bool false, .slice none 0 0] 24)).cell? ⟨w.heap.size + 1, 0, none⟩ = some (.bool m) := Ry.cell 0 rfl
      have Yy1 : (((w.alloc (.cells #[.bool n, .slice a xs.length ca] 24)).alloc (.cells #[.bool m, .slice b ys.length cb] 24)).alloc (.cells #[.bool false, .slice none 0 0] 24)).cell? ⟨w.heap.size + 1, 1, none⟩ = some (.slice b ys.length cb) := Ry.cell 1 rfl
      have Yr0 : (((w.alloc (.cells #[.bool n, .slice a xs.length ca] 24)).alloc (.cells #[.bool m, .slice b ys.length cb] 24)).alloc (.cells #[.bool false, .slice none 0 0] 24)).cell? ⟨w.heap.size + 2, 0, none⟩ = some (.bool false) := Rr.cell 0 rfl
      have Yr1 : (((w.alloc (.cells #[.bool n, .slice a xs.length ca] 24)).alloc (.cells #[.bool m, .slice b ys.length cb] 24)).alloc (.cells #[.bool false, .slice none 0 0] 24)).cell? ⟨w.heap.size + 2, 1, none⟩ = some (.slice none 0 0) := Rr.cell 1 rfl
      go_enter Try.func146, Try.ntmps146
      go_wp2_with fail
      refine (natCmp_any a ca xs b cb ys _ (HA.out.below B.out) (HB.out.below B.out) (by omega) (by omega)).mono ?_
      rintro e W6 ⟨rfl, b6⟩
      clear Yx0 Yx1 Yy0 Yy1 Yr0 Yr1
      have Rx := box_step Rx b6
      have Ry := box_step Ry b6
      have Rr := box_step Rr b6
      have B := Lib.hid (bstep B.out b6)
      have sb6 := b6.size
      have Yx0 := Rx.cell 0 rfl
      have Yx1 := Rx.cell 1 rfl
      have Lx := Rx.lt
      have Yy0 := Ry.cell 0 rfl
      have Yy1 := Ry.cell 1 rfl
      have Ly := Ry.lt
      have Yr0 := Rr.cell 0 rfl
      have Yr1 := Rr.cell 1 rfl
      have Lr := Rr.lt
      have Fr0 := Rr.frozen 0
      have Fr1 := Rr.frozen 1
      clear b6
      go_wp2_with fail
      go_region_held3 (fun w' => w'.cell? ⟨w.heap.size, 0, none⟩ = some (.bool n) ∧ w'.cell? ⟨w.heap.size, 1, none⟩ = some (.slice a xs.length ca) ∧ w'.cell? ⟨w.heap.size + 1, 0, none⟩ = some (.bool m) ∧ w'.cell? ⟨w.heap.size + 1, 1, none⟩ = some (.slice b ys.length cb))
        ((first | exact ⟨Yx0, Yx1, Yy0, Yy1⟩ | exact ⟨cell_stepD Yx0 b7, cell_stepD Yx1 b7, cell_stepD Yy0 b7, cell_stepD Yy1 b7⟩ | exact ⟨cell_step (cell_stepD Yx0 b7) b8, cell_step (cell_stepD Yx1 b7) b8, cell_step (cell_stepD Yy0 b7) b8, cell_step (cell_stepD Yy1 b7) b8⟩ | exact ⟨cell_low (cell_low (cell_step (cell_stepD Yx0 b7) b8) (by first | (simp; done) | (simp; omega) | omega)) (by first | (simp; done) | (simp; omega) | omega), cell_low (cell_low (cell_step (cell_stepD Yx1 b7) b8) (by first | (simp; done) | (simp; omega) | omega)) (by first | (simp; done) | (simp; omega) | omega), cell_low (cell_low (cell_step (cell_stepD Yy0 b7) b8) (by first | (simp; done) | (simp; omega) | omega)) (by first | (simp; done) | (simp; omega) | omega), cell_low (cell_low (cell_step (cell_stepD Yy1 b7) b8) (by first | (simp; done) | (simp; omega) | omega)) (by first | (simp; done) | (simp; omega) | omega)⟩))
        (first | (go_at_call 161; refine (own_out (natSub_any b cb ys a ca xs _ (HB.out.below (B.out.drew)) (HA.out.below (B.out.drew)) (by omega) HL.out RY.out RX.out H2.out)).mono ?_; rintro e W7 ⟨p, c', rfl, hO, b7⟩; have s7 := b7.size; (try simp at s7)) | (go_at_call 109; refine (signed_any m p (digs (val ys - val xs)).length c' _).mono ?_; rintro e W8 ⟨rfl, b8⟩; have s8 := b8.size; (try simp at s8); have Rr := (box_step (box_step (box_drew Rr) b7) b8); have Yr0 := Rr.cell 0 rfl; have Fr0 := Rr.frozen 0; have Yr1 := Rr.cell 1 rfl; have Fr1 := Rr.frozen 1; have Lr := Rr.lt))
      have sb7 := b7.size
      try simp at sb7
      have sb8 := b8.size
      have O := Lib.hid ((hO.below b8))
      clear hO
      have B := Lib.hid (bstep (bstepD B.out b7) b8)
      clear b7 b8
      go_wp2
      refine bodyPost_ret (v := .agg #[.bool (mkBI m (digs (val ys - val xs))).neg, .slice p (digs (val ys - val xs)).length c']) (by simp [results, Try.results146, go_sem, Yr0, Yr1, Lr, mkBI]) rfl ⟨p, c', rfl, big_endR (by first | omega | (simp; done) | (simp; omega)) (by first | omega | (simp; done) | (simp; omega)) O.out (by first | omega | (simp; done) | (simp; omega)) B.out _ _⟩
set_option maxHeartbeats 2000000 in
theorem l03Add_any : Calls Try.prog 145 #[.agg #[.bool n, .slice a xs.length ca], .agg #[.bool m, .slice b ys.length cb]] w fun e w' => ∃ p c', e = .returned (.agg #[.bool (capI (toI n xs + toI m ys)).neg, .slice p (capI (toI n xs + toI m ys)).mag.length c']) ∧
    OwnI w' w.heap.size w'.heap.size (.slice p (capI (toI n xs + toI m ys)).mag.length c') (capI (toI n xs + toI m ys)).mag ∧ Below w.heap.size w w' := by
  have HA := Lib.hid ha
  have HB := Lib.hid hb
  have HX := Lib.hid hx
  have HY := Lib.hid hy
  have RX := Lib.hid (rng_of hx)
  have RY := Lib.hid (rng_of hy)
  clear ha hb hx hy
  by_cases h1 : n = m
  · subst h1
    rw [toI_same, ← mkBI_cap]
    have Rx : Box (((w.alloc (.cells #[.bool n, .slice a xs.length ca] 24)).alloc (.cells #[.bool n, .slice b ys.length cb] 24)).alloc (.cells #[.bool false, .slice none 0 0] 24)) (w.heap.size) #[.bool n, .slice a xs.length ca] := bx3_0 (Below.refl _ _)
    have Ry : Box (((w.alloc (.cells #[.bool n, .slice a xs.length ca] 24)).alloc (.cells #[.bool n, .slice b ys.length cb] 24)).alloc (.cells #[.bool false, .slice none 0 0] 24)) (w.heap.size + 1) #[.bool n, .slice b ys.length cb] := bx3_1 (Below.refl _ _)
    have Rr : Box (((w.alloc (.cells #[.bool n, .slice a xs.length ca] 24)).alloc (.cells #[.bool n, .slice b ys.length cb] 24)).alloc (.cells #[.bool false, .slice none 0 0] 24)) (w.heap.size + 2) #[.bool false, .slice none 0 0] := bx3_2 (Below.refl _ _)
    have B : Hid (Below w.heap.size w (((w.alloc (.cells #[.bool n, .slice a xs.length ca] 24)).alloc (.cells #[.bool n, .slice b ys.length cb] 24)).alloc (.cells #[.bool false, .slice none 0 0] 24))) := Lib.hid (ba3 _ _ _ _)
    have Yx0 : (((w.alloc (.cells #[.bool n, .slice a xs.length ca] 24)).alloc (.cells #[.bool n, .slice b ys.length cb] 24)).alloc (.cells #[.bool false, .slice none 0 0] 24)).cell? ⟨w.heap.size, 0, none⟩ = some (.bool n) := Rx.cell 0 rfl
    have Yx1 : (((w.alloc (.cells #[.bool n, .slice a xs.length ca] 24)).alloc (.cells #[.bool n, .slice b ys.length cb] 24)).alloc (.cells #[.bool false, .slice none 0 0] 24)).cell? ⟨w.heap.size, 1, none⟩ = some (.slice a xs.length ca) := Rx.cell 1 rfl
    have Yy0 : (((w.alloc (.cells #[.bool n, .slice a xs.length ca] 24)).alloc (.cells #[.bool n, .slice b ys.length cb] 24)).alloc (.cells #[.bool false, .slice none 0 0] 24)).cell? ⟨w.heap.size + 1, 0, none⟩ = some (.bool n) := Ry.cell 0 rfl
    have Yy1 : (((w.alloc (.cells #[.bool n, .slice a xs.length ca] 24)).alloc (.cells #[.bool n, .slice b ys.length cb] 24)).alloc (.cells #[.bool false, .slice none 0 0] 24)).cell? ⟨w.heap.size + 1, 1, none⟩ = some (.slice b ys.length cb) := Ry.cell 1 rfl
    have Yr0 : (((w.alloc (.cells #[.bool n, .slice a xs.length ca] 24)).alloc (.cells #[.bool n, .slice b ys.length cb] 24)).alloc (.cells #[.bool false, .slice none 0 0] 24)).cell? ⟨w.heap.size + 2, 0, none⟩ = some (.bool false) := Rr.cell 0 rfl
    have Yr1 : (((w.alloc (.cells #[.bool n, .slice a xs.length ca] 24)).alloc (.cells #[.bool n, .slice b ys.length cb] 24)).alloc (.cells #[.bool false, .slice none 0 0] 24)).cell? ⟨w.heap.size + 2, 1, none⟩ = some (.slice none 0 0) := Rr.cell 1 rfl
    go_enter Try.func145, Try.ntmps145
    go_wp2_with fail
    go_region_held3 (fun w' => w'.cell? ⟨w.heap.size, 0, none⟩ = some (.bool n) ∧ w'.cell? ⟨w.heap.size, 1, none⟩ = some (.slice a xs.length ca) ∧ w'.cell? ⟨w.heap.size + 1, 0, none⟩ = some (.bool n) ∧ w'.cell? ⟨w.heap.size + 1, 1, none⟩ = some (.slice b ys.length cb))
      ((first | exact ⟨Yx0, Yx1, Yy0, Yy1⟩ | exact ⟨cell_stepD Yx0 b9, cell_stepD Yx1 b9, cell_stepD Yy0 b9, cell_stepD Yy1 b9⟩ | exact ⟨cell_step (cell_stepD Yx0 b9) b10, cell_step (cell_stepD Yx1 b9) b10, cell_step (cell_stepD Yy0 b9) b10, cell_step (cell_stepD Yy1 b9) b10⟩ | exact ⟨cell_low (cell_low (cell_step (cell_stepD Yx0 b9) b10) (by first | (simp; done) | (simp; omega) | omega)) (by first | (simp; done) | (simp; omega) | omega), cell_low (cell_low (cell_step (cell_stepD Yx1 b9) b10) (by first | (simp; done) | (simp; omega) | omega)) (by first | (simp; done) | (simp; omega) | omega), cell_low (cell_low (cell_step (cell_stepD Yy0 b9) b10) (by first | (simp; done) | (simp; omega) | omega)) (by first | (simp; done) | (simp; omega) | omega), cell_low (cell_low (cell_step (cell_stepD Yy1 b9) b10) (by first | (simp; done) | (simp; omega) | omega)) (by first | (simp; done) | (simp; omega) | omega)⟩))
      (first | (go_at_call 159; refine (l02Add_out a ca xs b cb ys _ (HA.out.below (B.out.drew)) (HB.out.below (B.out.drew)) hn hm RX.out RY.out).mono ?_; rintro e W9 ⟨ds, p, c', rfl, hO, hrd, hvd, hld, b9⟩; have s9 := b9.size; (try simp at s9)) | (go_at_call 126; refine (l03Make_val n (val xs + val ys) p c' ds _ hO.ints hld hrd.out hvd.out).mono ?_; rintro e W10 ⟨p2, c2, rfl, hQ, b10⟩; have s10 := b10.size; (try simp at s10); have Rr := (box_step (box_step (box_drew Rr) b9) b10); have Yr0 := Rr.cell 0 rfl; have Fr0 := Rr.frozen 0; have Yr1 := Rr.cell 1 rfl; have Fr1 := Rr.frozen 1; have Lr := Rr.lt))
    have sb9 := b9.size
    try simp at sb9
    have sb10 := b10.size
    have O := Lib.hid ((hO.below b10))
    clear hO
    have Q := Lib.hid (hQ)
    clear hQ
    have B := Lib.hid (bstep (bstepD B.out b9) b10)
    clear b9 b10
    go_wp2
    refine bodyPost_ret (v := .agg #[.bool (mkBI n (capD (val xs + val ys))).neg, .slice p2 (capD (val xs + val ys)).length c2]) (by simp [results, Try.results145, go_sem, Yr0, Yr1, Lr]) rfl ⟨p2, c2, rfl, big_endR (by first | omega | (simp; done) | (simp; omega)) (by first | omega | (simp; done) | (simp; omega)) Q.out (by first | omega | (simp; done) | (simp; omega)) B.out _ _⟩
  · have hne : (n == m) = false := beq_eq_false_iff_ne.2 h1
    by_cases h2 : val ys ≤ val xs
    · rw [toI_first h1 h2, ← mkBI_cap]
      have hc := cmp_ge HX.out HY.out h2
      have HL := Lib.hid (len_of_le HX.out HY.out h2)
      have H2 := Lib.hid h2
      have HD : Hid ((digs (val xs - val ys)).length ≤ 1048576) := by have := digs_sub_len (m := val ys) RX.out hn; unfold Hid; omega
      clear h1 h2
      have Rx : Box (((w.alloc (.cells #[.bool n, .slice a xs.length ca] 24)).alloc (.cells #[.bool m, .slice b ys.length cb] 24)).alloc (.cells #[.bool false, .slice none 0 0] 24)) (w.heap.size) #[.bool n, .slice a xs.length ca] := bx3_0 (Below.refl _ _)
      have Ry : Box (((w.alloc (.cells #[.bool n, .slice a xs.length ca] 24)).alloc (.cells #[.bool m, .slice b ys.length cb] 24)).alloc (.cells #[.bool false, .slice none 0 0] 24)) (w.heap.size + 1) #[.bool m, .slice b ys.length cb] := bx3_1 (Below.refl _ _)
      have Rr : Box (((w.alloc (.cells #[.bool n, .slice a xs.length ca] 24)).alloc (.cells #[.bool m, .slice b ys.length cb] 24)).alloc (.cells #[.bool false, .slice none 0 0] 24)) (w.heap.size + 2) #[.bool false, .slice none 0 0] := bx3_2 (Below.refl _ _)
      have B : Hid (Below w.heap.size w (((w.alloc (.cells #[.bool n, .slice a xs.length ca] 24)).alloc (.cells #[.bool m, .slice b ys.length cb] 24)).alloc (.cells #[.bool false, .slice none 0 0] 24))) := Lib.hid (ba3 _ _ _ _)
      have Yx0 : (((w.alloc (.cells #[.bool n, .slice a xs.length ca] 24)).alloc (.cells #[.bool m, .slice b ys.length cb] 24)).alloc (.cells #[.bool false, .slice none 0 0] 24)).cell? ⟨w.heap.size, 0, none⟩ = some (.bool n) := Rx.cell 0 rfl
      have Yx1 : (((w.alloc (.cells #[.bool n, .slice a xs.length ca] 24)).alloc (.cells #[.bool m, .slice b ys.length cb] 24)).alloc (.cells #[.bool false, .slice none 0 0] 24)).cell? ⟨w.heap.size, 1, none⟩ = some (.slice a xs.length ca) := Rx.cell 1 rfl
      have Yy0 : (((w.alloc (.cells #[.bool n, .slice a xs.length ca] 24)).alloc (.cells #[.bool m, .slice b ys.length cb] 24)).alloc (.cells #[.bool false, .slice none 0 0] 24)).cell? ⟨w.heap.size + 1, 0, none⟩ = some (.bool m) := Ry.cell 0 rfl
      have Yy1 : (((w.alloc (.cells #[.bool n, .slice a xs.length ca] 24)).alloc (.cells #[.bool m, .slice b ys.length cb] 24)).alloc (.cells #[.bool false, .slice none 0 0] 24)).cell? ⟨w.heap.size + 1, 1, none⟩ = some (.slice b ys.length cb) := Ry.cell 1 rfl
      have Yr0 : (((w.alloc (.cells #[.bool n, .slice a xs.length ca] 24)).alloc (.cells #[.bool m, .slice b ys.length cb] 24)).alloc (.cells #[.bool false, .slice none 0 0] 24)).cell? ⟨w.heap.size + 2, 0, none⟩ = some (.bool false) := Rr.cell 0 rfl
      have Yr1 : (((w.alloc (.cells #[.bool n, .slice a xs.length ca] 24)).alloc (.cells #[.bool m, .slice b ys.length cb] 24)).alloc (.cells #[.bool false, .slice none 0 0] 24)).cell? ⟨w.heap.size + 2, 1, none⟩ = some (.slice none 0 0) := Rr.cell 1 rfl
      go_enter Try.func145, Try.ntmps145
      go_wp2_with fail
      refine (l02Cmp_any a ca xs b cb ys _ (HA.out.below B.out) (HB.out.below B.out) (by omega) (by omega)).mono ?_
      rintro e W11 ⟨rfl, b11⟩
      clear Yx0 Yx1 Yy0 Yy1 Yr0 Yr1
      have Rx := box_step Rx b11
      have Ry := box_step Ry b11
      have Rr := box_step Rr b11
      have B := Lib.hid (bstep B.out b11)
      have sb11 := b11.size
      have Yx0 := Rx.cell 0 rfl
      have Yx1 := Rx.cell 1 rfl
      have Lx := Rx.lt
      have Yy0 := Ry.cell 0 rfl
      have Yy1 := Ry.cell 1 rfl
      have Ly := Ry.lt
      have Yr0 := Rr.cell 0 rfl
      have Yr1 := Rr.cell 1 rfl
      have Lr := Rr.lt
      have Fr0 := Rr.frozen 0
      have Fr1 := Rr.frozen 1
      clear b11
      go_wp2_with fail
      go_region_held3 (fun w' => w'.cell? ⟨w.heap.size, 0, none⟩ = some (.bool n) ∧ w'.cell? ⟨w.heap.size, 1, none⟩ = some (.slice a xs.length ca) ∧ w'.cell? ⟨w.heap.size + 1, 0, none⟩ = some (.bool m) ∧ w'.cell? ⟨w.heap.size + 1, 1, none⟩ = some (.slice b ys.length cb))
        ((first | exact ⟨Yx0, Yx1, Yy0, Yy1⟩ | exact ⟨cell_stepD Yx0 b12, cell_stepD Yx1 b12, cell_stepD Yy0 b12, cell_stepD Yy1 b12⟩ | exact ⟨cell_step (cell_stepD Yx0 b12) b13, cell_step (cell_stepD Yx1 b12) b13, cell_step (cell_stepD Yy0 b12) b13, cell_step (cell_stepD Yy1 b12) b13⟩ | exact ⟨cell_low (cell_low (cell_step (cell_stepD Yx0 b12) b13) (by first | (simp; done) | (simp; omega) | omega)) (by first | (simp; done) | (simp; omega) | omega), cell_low (cell_low (cell_step (cell_stepD Yx1 b12) b13) (by first | (simp; done) | (simp; omega) | omega)) (by first | (simp; done) | (simp; omega) | omega), cell_low (cell_low (cell_step (cell_stepD Yy0 b12) b13) (by first | (simp; done) | (simp; omega) | omega)) (by first | (simp; done) | (simp; omega) | omega), cell_low (cell_low (cell_step (cell_stepD Yy1 b12) b13) (by first | (simp; done) | (simp; omega) | omega)) (by first | (simp; done) | (simp; omega) | omega)⟩))
        (first | (go_at_call 151; refine (own_out (l02Sub_any a ca xs b cb ys _ (HA.out.below (B.out.drew)) (HB.out.below (B.out.drew)) (by omega) HL.out RX.out RY.out H2.out)).mono ?_; rintro e W12 ⟨p, c', rfl, hO, b12⟩; have s12 := b12.size; (try simp at s12)) | (go_at_call 126; refine (l03Make_val n (val xs - val ys) p c' _ _ hO.ints HD.out (digs_rng _) (val_digs _)).mono ?_; rintro e W13 ⟨p2, c2, rfl, hQ, b13⟩; have s13 := b13.size; (try simp at s13); have Rr := (box_step (box_step (box_drew Rr) b12) b13); have Yr0 := Rr.cell 0 rfl; have Fr0 := Rr.frozen 0; have Yr1 := Rr.cell 1 rfl; have Fr1 := Rr.frozen 1; have Lr := Rr.lt))
      have sb12 := b12.size
      try simp at sb12
      have sb13 := b13.size
      have O := Lib.hid ((hO.below b13))
      clear hO
      have Q := Lib.hid (hQ)
      clear hQ
      have B := Lib.hid (bstep (bstepD B.out b12) b13)
      clear b12 b13
      go_wp2
      refine bodyPost_ret (v := .agg #[.bool (mkBI n (capD (val xs - val ys))).neg, .slice p2 (capD (val xs - val ys)).length c2]) (by simp [results, Try.results145, go_sem, Yr0, Yr1, Lr]) rfl ⟨p2, c2, rfl, big_endR (by first | omega | (simp; done) | (simp; omega)) (by first | omega | (simp; done) | (simp; omega)) Q.out (by first | omega | (simp; done) | (simp; omega)) B.out _ _⟩
    · have h3 : val xs < val ys := by omega
      rw [toI_second h1 (by omega), ← mkBI_cap]
      have hc := cmp_neg HX.out HY.out h3
      have HL := Lib.hid (len_of_le HY.out HX.out (by omega))
      have H2 : Hid (val xs ≤ val ys) := by unfold Hid; omega
      have HD : Hid ((digs (val ys - val xs)).length ≤ 1048576) := by have := digs_sub_len (m := val xs) RY.out hm; unfold Hid; omega
      clear h1 h2 h3
      have Rx : Box (((w.alloc (.cells #[.bool n, .slice a xs.length ca] 24)).alloc (.cells #[.bool m, .slice b ys.length cb] 24)).alloc (.cells #[.bool false, .slice none 0 0] 24)) (w.heap.size) #[.bool n, .slice a xs.length ca] := bx3_0 (Below.refl _ _)
      have Ry : Box (((w.alloc (.cells #[.bool n, .slice a xs.length ca] 24)).alloc (.cells #[.bool m, .slice b ys.length cb] 24)).alloc (.cells #[.bool false, .slice none 0 0] 24)) (w.heap.size + 1) #[.bool m, .slice b ys.length cb] := bx3_1 (Below.refl _ _)
      have Rr : Box (((w.alloc (.cells #[.bool n, .slice a xs.length ca] 24)).alloc (.cells #[.bool m, .slice b ys.length cb] 24)).alloc (.cells #[.bool false, .slice none 0 0] 24)) (w.heap.size + 2) #[.bool false, .slice none 0 0] := bx3_2 (Below.refl _ _)
      have B : Hid (Below w.heap.size w (((w.alloc (.cells #[.bool n, .slice a xs.length ca] 24)).alloc (.cells #[.bool m, .slice b ys.length cb] 24)).alloc (.cells #[.bool false, .slice none 0 0] 24))) := Lib.hid (ba3 _ _ _ _)
      have Yx0 : (((w.alloc (.cells #[.bool n, .slice a xs.length ca] 24)).alloc (.cells #[.bool m, .slice b ys.length cb] 24)).alloc (.cells #[.bool false, .slice none 0 0] 24)).cell? ⟨w.heap.size, 0, none⟩ = some (.bool n) := Rx.cell 0 rfl
      have Yx1 : (((w.alloc (.cells #[.bool n, .slice a xs.length ca] 24)).alloc (.cells #[.bool m, .slice b ys.length cb] 24)).alloc (.cells #[.bool false, .slice none 0 0] 24)).cell? ⟨w.heap.size, 1, none⟩ = some (.slice a xs.length ca) := Rx.cell 1 rfl
      have Yy0 : (((w.alloc (.cells #[.bool n, .slice a xs.length ca] 24)).alloc (.cells #[.bool m, .slice b ys.length cb] 24)).alloc (.cells #[.bool false, .slice none 0 0] 24)).cell? ⟨w.heap.size + 1, 0, none⟩ = some (.bool m) := Ry.cell 0 rfl
      have Yy1 : (((w.alloc (.cells #[.bool n, .slice a xs.length ca] 24)).alloc (.cells #[.bool m, .slice b ys.length cb] 24)).alloc (.cells #[.bool false, .slice none 0 0] 24)).cell? ⟨w.heap.size + 1, 1, none⟩ = some (.slice b ys.length cb) := Ry.cell 1 rfl
      have Yr0 : (((w.alloc (.cells #[.bool n, .slice a xs.length ca] 24)).alloc (.cells #[.bool m, .slice b ys.length cb] 24)).alloc (.cells #[.bool false, .slice none 0 0] 24)).cell? ⟨w.heap.size + 2, 0, none⟩ = some (.bool false) := Rr.cell 0 rfl
      have Yr1 : (((w.alloc (.cells #[.bool n, .slice a xs.length ca] 24)).alloc (.cells #[.bool m, .slice b ys.length cb] 24)).alloc (.cells #[.bool false, .slice none 0 0] 24)).cell? ⟨w.heap.size + 2, 1, none⟩ = some (.slice none 0 0) := Rr.cell 1 rfl
      go_enter Try.func145, Try.ntmps145
      go_wp2_with fail
      refine (l02Cmp_any a ca xs b cb ys _ (HA.out.below B.out) (HB.out.below B.out) (by omega) (by omega)).mono ?_
      rintro e W14 ⟨rfl, b14⟩
      clear Yx0 Yx1 Yy0 Yy1 Yr0 Yr1
      have Rx := box_step Rx b14
      have Ry := box_step Ry b14
      have Rr := box_step Rr b14
      have B := Lib.hid (bstep B.out b14)
      have sb14 := b14.size
      have Yx0 := Rx.cell 0 rfl
      have Yx1 := Rx.cell 1 rfl
      have Lx := Rx.lt
      have Yy0 := Ry.cell 0 rfl
      have Yy1 := Ry.cell 1 rfl
      have Ly := Ry.lt
      have Yr0 := Rr.cell 0 rfl
      have Yr1 := Rr.cell 1 rfl
      have Lr := Rr.lt
      have Fr0 := Rr.frozen 0
      have Fr1 := Rr.frozen 1
      clear b14
      go_wp2_with fail
      go_region_held3 (fun w' => w'.cell? ⟨w.heap.size, 0, none⟩ = some (.bool n) ∧ w'.cell? ⟨w.heap.size, 1, none⟩ = some (.slice a xs.length ca) ∧ w'.cell? ⟨w.heap.size + 1, 0, none⟩ = some (.bool m) ∧ w'.cell? ⟨w.heap.size + 1, 1, none⟩ = some (.slice b ys.length cb))
        ((first | exact ⟨Yx0, Yx1, Yy0, Yy1⟩ | exact ⟨cell_stepD Yx0 b15, cell_stepD Yx1 b15, cell_stepD Yy0 b15, cell_stepD Yy1 b15⟩ | exact ⟨cell_step (cell_stepD Yx0 b15) b16, cell_step (cell_stepD Yx1 b15) b16, cell_step (cell_stepD Yy0 b15) b16, cell_step (cell_stepD Yy1 b15) b16⟩ | exact ⟨cell_low (cell_low (cell_step (cell_stepD Yx0 b15) b16) (by first | (simp; done) | (simp; omega) | omega)) (by first | (simp; done) | (simp; omega) | omega), cell_low (cell_low (cell_step (cell_stepD Yx1 b15) b16) (by first | (simp; done) | (simp; omega) | omega)) (by first | (simp; done) | (simp; omega) | omega), cell_low (cell_low (cell_step (cell_stepD Yy0 b15) b16) (by first | (simp; done) | (simp; omega) | omega)) (by first | (simp; done) | (simp; omega) | omega), cell_low (cell_low (cell_step (cell_stepD Yy1 b15) b16) (by first | (simp; done) | (simp; omega) | omega)) (by first | (simp; done) | (simp; omega) | omega)⟩))
        (first | (go_at_call 151; refine (own_out (l02Sub_any b cb ys a ca xs _ (HB.out.below (B.out.drew)) (HA.out.below (B.out.drew)) (by omega) HL.out RY.out RX.out H2.out)).mono ?_; rintro e W15 ⟨p, c', rfl, hO, b15⟩; have s15 := b15.size; (try simp at s15)) | (go_at_call 126; refine (l03Make_val m (val ys - val xs) p c' _ _ hO.ints HD.out (digs_rng _) (val_digs _)).mono ?_; rintro e W16 ⟨p2, c2, rfl, hQ, b16⟩; have s16 := b16.size; (try simp at s16); have Rr := (box_step (box_step (box_drew Rr) b15) b16); have Yr0 := Rr.cell 0 rfl; have Fr0 := Rr.frozen 0; have Yr1 := Rr.cell 1 rfl; have Fr1 := Rr.frozen 1; have Lr := Rr.lt))
      have sb15 := b15.size
      try simp at sb15
      have sb16 := b16.size
      have O := Lib.hid ((hO.below b16))
      clear hO
      have Q := Lib.hid (hQ)
      clear hQ
      have B := Lib.hid (bstep (bstepD B.out b15) b16)
      clear b15 b16
      go_wp2
      refine bodyPost_ret (v := .agg #[.bool (mkBI m (capD (val ys - val xs))).neg, .slice p2 (capD (val ys - val xs)).length c2]) (by simp [results, Try.results145, go_sem, Yr0, Yr1, Lr]) rfl ⟨p2, c2, rfl, big_endR (by first | omega | (simp; done) | (simp; omega)) (by first | omega | (simp; done) | (simp; omega)) Q.out (by first | omega | (simp; done) | (simp; omega)) B.out _ _⟩
end
section
variable (n : Bool) (a : Option Addr) (ca : Nat) (xs : List Int) (m : Bool) (b : Option Addr) (cb : Nat) (ys : List Int) (w : World) (ha : IntsAt w a ca xs) (hn : xs.length ≤ 1048576) (hb : IntsAt w b cb ys) (hm : ys.length ≤ 1048576)
include ha hn hb hm
end
end Go.Proofs.Ytlpnhcoaidmiiaa
