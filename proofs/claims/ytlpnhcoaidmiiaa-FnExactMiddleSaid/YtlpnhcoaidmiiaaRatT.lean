/- Fractions: the reference's walks, two fractions. -/
import Derived.Test.YtlpnhcoaidmiiaaRatN
namespace Go.Proofs.Ytlpnhcoaidmiiaa
set_option linter.unusedVariables false
set_option linter.unusedSimpArgs false
open Go.RowKit
theorem one_atB (w : World) {B : Nat} (hB : B = w.heap.size) : IntsAt (w.alloc (.cells #[.int .i64 1] 3)) (some ⟨B, 0, none⟩) 1 [1] := by
  subst hB
  have := ints_lit w [1] (fun x hx => by simp at hx; rw [hx]; unfold In64; omega) (by simp [maxLen])
  simpa using this
theorem cmp_mk (n : Bool) (N : Nat) (m : Bool) (M : Nat) : bigCmpL (mkBI n (digs N)).neg (digs N) (mkBI m (digs M)).neg (digs M) = cmpZ (if n then -(N : Int) else N) (if m then -(M : Int) else M) := by
  have e1 : (if n then -(N : Int) else (N : Int)).natAbs = N := by cases n <;> simp
  have e2 : (if m then -(M : Int) else (M : Int)).natAbs = M := by cases m <;> simp
  have h := bigCmpL_ofI (if n then -(N : Int) else N) (if m then -(M : Int) else M)
  rw [← mkBI_any, ← mkBI_any] at h
  exact h
theorem toI_mk (n : Bool) (N : Nat) : toI (mkBI n (digs N)).neg (digs N) = if n then -(N : Int) else N := by
  have h := toI_ofI (if n then -(N : Int) else (N : Int))
  rw [← mkBI_any] at h
  exact h
theorem capI_fit {z : Int} (h : (digs z.natAbs).length ≤ 60) : capI z = ofI z := if_pos h
theorem natAbs_add_lt {x y : Int} {k : Nat} (h1 : (digs x.natAbs).length ≤ k) (h2 : (digs y.natAbs).length ≤ k) : (digs (x + y).natAbs).length ≤ k + 1 := by
  have a1 := digs_lt_pw h1
  have a2 := digs_lt_pw h2
  apply digs_len_le
  rw [pw_succ]
  omega
theorem l03Add_of (n : Bool) (a : Option Addr) (ca : Nat) (xs : List Int) (m : Bool) (b : Option Addr) (cb : Nat) (ys : List Int) (z : Int) (w : World) (ha : IntsAt w a ca xs) (hb : IntsAt w b cb ys) (hn : xs.length ≤ 500000) (hm : ys.length ≤ 500000) (hx : digs (val xs) = xs) (hy : digs (val ys) = ys) (hz : toI n xs + toI m ys = z) (hf : (digs z.natAbs).length ≤ 60) :
    Calls Try.prog 145 #[.agg #[.bool n, .slice a xs.length ca], .agg #[.bool m, .slice b ys.length cb]] w fun e w' => ∃ p c', e = .returned (.agg #[.bool (ofI z).neg, .slice p (ofI z).mag.length c']) ∧
    OwnI w' w.heap.size w'.heap.size (.slice p (ofI z).mag.length c') (ofI z).mag ∧ Below w.heap.size w w' := by
  have h := l03Add_any n a ca xs m b cb ys w ha hn hb hm hx hy
  rw [hz, capI_fit hf] at h
  exact h
section
variable (n : Bool) (a : Option Addr) (ca : Nat) (xs : List Int) (b : Option Addr) (cb : Nat) (ds : List Int) (m : Bool) (a2 : Option Addr) (ca2 : Nat) (ys : List Int) (b2 : Option Addr) (cb2 : Nat) (es : List Int) (w : World) (ha : IntsAt w a ca xs) (hn : xs.length ≤ 1048576) (hb : IntsAt w b cb ds) (hm : ds.length ≤ 1048576) (ha2 : IntsAt w a2 ca2 ys) (hn2 : ys.length ≤ 1048576) (hb2 : IntsAt w b2 cb2 es) (hm2 : es.length ≤ 1048576)
set_option maxHeartbeats 4000000 in
set_option maxRecDepth 100000 in
include ha hn hb hm ha2 hn2 hb2 hm2 in
theorem l04Mul_own (h1 : ratOkB n xs ds = true) (h2 : ratOkB m ys es = true) : Calls Try.prog 117 #[.agg #[.bool n, .slice a xs.length ca, .slice b ds.length cb], .agg #[.bool m, .slice a2 ys.length ca2, .slice b2 es.length cb2]] w (RatRetS w (ratMulP n xs ds m ys es)) := by
  have hlx := rok_lx h1
  have hld := rok_ld h1
  have hly := rok_lx h2
  have hle := rok_ld h2
  have HX := Lib.hid (rok_rx h1)
  have HD := Lib.hid (rok_rd h1)
  have HY := Lib.hid (rok_rx h2)
  have HE := Lib.hid (rok_rd h2)
  obtain ⟨N, hN⟩ : ∃ N : Nat, val xs * val ys = N := ⟨_, rfl⟩
  have hlN : (digs N).length ≤ 48 := by rw [← hN]; exact digs_mul_len (rok_rx h1) (rok_rx h2) (by omega) (by omega)
  obtain ⟨D, hD⟩ : ∃ N : Nat, val ds * val es = N := ⟨_, rfl⟩
  have hlD : (digs D).length ≤ 48 := by rw [← hD]; exact digs_mul_len (rok_rd h1) (rok_rd h2) (by omega) (by omega)
  have HN := Lib.hid hN
  have HD' := Lib.hid hD
  obtain ⟨R, hR⟩ : ∃ R, mkRA (n != m) N D = R := ⟨_, rfl⟩
  have HL : Hid (∀ (W : World) (p : Option Addr) (c : Nat) (p2 : Option Addr) (c2 : Nat), IntsAt W p c (digs N) → IntsAt W p2 c2 (digs D) → Calls Try.prog 107 #[.bool (n != m), .slice p (digs N).length c, .slice p2 (digs D).length c2] W (RatRetS W R)) := fun W p c p2 c2 i1 i2 => hR ▸ l04Low_out (n != m) p c N p2 c2 D W i1 (by omega) i2 (by omega)
  rw [ratMulP_yes h1 h2, hN, hD, hR]
  clear hR hN hD h1 h2
  have HA := Lib.hid ha
  have HB := Lib.hid hb
  have HA2 := Lib.hid ha2
  have HB2 := Lib.hid hb2
  clear ha hb ha2 hb2
  have Rx : Box (((w.alloc (.cells #[.bool n, .slice a xs.length ca, .slice b ds.length cb] 26)).alloc (.cells #[.bool m, .slice a2 ys.length ca2, .slice b2 es.length cb2] 26)).alloc (.cells #[.bool false, .slice none 0 0, .slice none 0 0] 26)) (w.heap.size) #[.bool n, .slice a xs.length ca, .slice b ds.length cb] := bx3_0 (Below.refl _ _)
  have Ry : Box (((w.alloc (.cells #[.bool n, .slice a xs.length ca, .slice b ds.length cb] 26)).alloc (.cells #[.bool m, .slice a2 ys.length ca2, .slice b2 es.length cb2] 26)).alloc (.cells #[.bool false, .slice none 0 0, .slice none 0 0] 26)) (w.heap.size + 1) #[.bool m, .slice a2 ys.length ca2, .slice b2 es.length cb2] := bx3_1 (Below.refl _ _)
  have Rr : Box (((w.alloc (.cells #[.bool n, .slice a xs.length ca, .slice b ds.length cb] 26)).alloc (.cells #[.bool m, .slice a2 ys.length ca2, .slice b2 es.length cb2] 26)).alloc (.cells #[.bool false, .slice none 0 0, .slice none 0 0] 26)) (w.heap.size + 2) #[.bool false, .slice none 0 0, .slice none 0 0] := bx3_2 (Below.refl _ _)
  have B : Hid (Below w.heap.size w (((w.alloc (.cells #[.bool n, .slice a xs.length ca, .slice b ds.length cb] 26)).alloc (.cells #[.bool m, .slice a2 ys.length ca2, .slice b2 es.length cb2] 26)).alloc (.cells #[.bool false, .slice none 0 0, .slice none 0 0] 26))) := Lib.hid (ba3 _ _ _ _)
  have Yx0 : (((w.alloc (.cells #[.bool n, .slice a xs.length ca, .slice b ds.length cb] 26)).alloc (.cells #[.bool m, .slice a2 ys.length ca2, .slice b2 es.length cb2] 26)).alloc (.cells #[.bool false, .slice none 0 0, .slice none 0 0] 26)).cell? ⟨w.heap.size, 0, none⟩ = some (.bool n) := Rx.cell 0 rfl
  have Yx1 : (((w.alloc (.cells #[.bool n, .slice a xs.length ca, .slice b ds.length cb] 26)).alloc (.cells #[.bool m, .slice a2 ys.length ca2, .slice b2 es.length cb2] 26)).alloc (.cells #[.bool false, .slice none 0 0, .slice none 0 0] 26)).cell? ⟨w.heap.size, 1, none⟩ = some (.slice a xs.length ca) := Rx.cell 1 rfl
  have Yx2 : (((w.alloc (.cells #[.bool n, .slice a xs.length ca, .slice b ds.length cb] 26)).alloc (.cells #[.bool m, .slice a2 ys.length ca2, .slice b2 es.length cb2] 26)).alloc (.cells #[.bool false, .slice none 0 0, .slice none 0 0] 26)).cell? ⟨w.heap.size, 2, none⟩ = some (.slice b ds.length cb) := Rx.cell 2 rfl
  have Yy0 : (((w.alloc (.cells #[.bool n, .slice a xs.length ca, .slice b ds.length cb] 26)).alloc (.cells #[.bool m, .slice a2 ys.length ca2, .slice b2 es.length cb2] 26)).alloc (.cells #[.bool false, .slice none 0 0, .slice none 0 0] 26)).cell? ⟨w.heap.size + 1, 0, none⟩ = some (.bool m) := Ry.cell 0 rfl
  have Yy1 : (((w.alloc (.cells #[.bool n, .slice a xs.length ca, .slice b ds.length cb] 26)).alloc (.cells #[.bool m, .slice a2 ys.length ca2, .slice b2 es.length cb2] 26)).alloc (.cells #[.bool false, .slice none 0 0, .slice none 0 0] 26)).cell? ⟨w.heap.size + 1, 1, none⟩ = some (.slice a2 ys.length ca2) := Ry.cell 1 rfl
  have Yy2 : (((w.alloc (.cells #[.bool n, .slice a xs.length ca, .slice b ds.length cb] 26)).alloc (.cells #[.bool m, .slice a2 ys.length ca2, .slice b2 es.length cb2] 26)).alloc (.cells #[.bool false, .slice none 0 0, .slice none 0 0] 26)).cell? ⟨w.heap.size + 1, 2, none⟩ = some (.slice b2 es.length cb2) := Ry.cell 2 rfl
  have Yr0 : (((w.alloc (.cells #[.bool n, .slice a xs.length ca, .slice b ds.length cb] 26)).alloc (.cells #[.bool m, .slice a2 ys.length ca2, .slice b2 es.length cb2] 26)).alloc (.cells #[.bool false, .slice none 0 0, .slice none 0 0] 26)).cell? ⟨w.heap.size + 2, 0, none⟩ = some (.bool false) := Rr.cell 0 rfl
  have Yr1 : (((w.alloc (.cells #[.bool n, .slice a xs.length ca, .slice b ds.length cb] 26)).alloc (.cells #[.bool m, .slice a2 ys.length ca2, .slice b2 es.length cb2] 26)).alloc (.cells #[.bool false, .slice none 0 0, .slice none 0 0] 26)).cell? ⟨w.heap.size + 2, 1, none⟩ = some (.slice none 0 0) := Rr.cell 1 rfl
  have Yr2 : (((w.alloc (.cells #[.bool n, .slice a xs.length ca, .slice b ds.length cb] 26)).alloc (.cells #[.bool m, .slice a2 ys.length ca2, .slice b2 es.length cb2] 26)).alloc (.cells #[.bool false, .slice none 0 0, .slice none 0 0] 26)).cell? ⟨w.heap.size + 2, 2, none⟩ = some (.slice none 0 0) := Rr.cell 2 rfl
  go_enter Try.func117, Try.ntmps117
  have tok1 : True := trivial
  have tok2 : True := trivial
  go_wp2_with fail
  go_region_held3 (fun w' => w'.cell? ⟨w.heap.size, 0, none⟩ = some (.bool n) ∧ w'.cell? ⟨w.heap.size, 1, none⟩ = some (.slice a xs.length ca) ∧ w'.cell? ⟨w.heap.size, 2, none⟩ = some (.slice b ds.length cb) ∧ w'.cell? ⟨w.heap.size + 1, 0, none⟩ = some (.bool m) ∧ w'.cell? ⟨w.heap.size + 1, 1, none⟩ = some (.slice a2 ys.length ca2) ∧ w'.cell? ⟨w.heap.size + 1, 2, none⟩ = some (.slice b2 es.length cb2))
    ((first | exact ⟨Yx0, Yx1, Yx2, Yy0, Yy1, Yy2⟩ | exact ⟨cell_stepD Yx0 b1, cell_stepD Yx1 b1, cell_stepD Yx2 b1, cell_stepD Yy0 b1, cell_stepD Yy1 b1, cell_stepD Yy2 b1⟩ | exact ⟨cell_step (cell_stepD Yx0 b1) b2, cell_step (cell_stepD Yx1 b1) b2, cell_step (cell_stepD Yx2 b1) b2, cell_step (cell_stepD Yy0 b1) b2, cell_step (cell_stepD Yy1 b1) b2, cell_step (cell_stepD Yy2 b1) b2⟩ | exact ⟨cell_step (cell_step (cell_stepD Yx0 b1) b2) b3, cell_step (cell_step (cell_stepD Yx1 b1) b2) b3, cell_step (cell_step (cell_stepD Yx2 b1) b2) b3, cell_step (cell_step (cell_stepD Yy0 b1) b2) b3, cell_step (cell_step (cell_stepD Yy1 b1) b2) b3, cell_step (cell_step (cell_stepD Yy2 b1) b2) b3⟩ | exact ⟨cell_low (cell_low (cell_low (cell_step (cell_step (cell_stepD Yx0 b1) b2) b3) (by first | (simp; done) | (simp; omega) | omega)) (by first | (simp; done) | (simp; omega) | omega)) (by first | (simp; done) | (simp; omega) | omega), cell_low (cell_low (cell_low (cell_step (cell_step (cell_stepD Yx1 b1) b2) b3) (by first | (simp; done) | (simp; omega) | omega)) (by first | (simp; done) | (simp; omega) | omega)) (by first | (simp; done) | (simp; omega) | omega), cell_low (cell_low (cell_low (cell_step (cell_step (cell_stepD Yx2 b1) b2) b3) (by first | (simp; done) | (simp; omega) | omega)) (by first | (simp; done) | (simp; omega) | omega)) (by first | (simp; done) | (simp; omega) | omega), cell_low (cell_low (cell_low (cell_step (cell_step (cell_stepD Yy0 b1) b2) b3) (by first | (simp; done) | (simp; omega) | omega)) (by first | (simp; done) | (simp; omega) | omega)) (by first | (simp; done) | (simp; omega) | omega), cell_low (cell_low (cell_low (cell_step (cell_step (cell_stepD Yy1 b1) b2) b3) (by first | (simp; done) | (simp; omega) | omega)) (by first | (simp; done) | (simp; omega) | omega)) (by first | (simp; done) | (simp; omega) | omega), cell_low (cell_low (cell_low (cell_step (cell_step (cell_stepD Yy2 b1) b2) b3) (by first | (simp; done) | (simp; omega) | omega)) (by first | (simp; done) | (simp; omega) | omega)) (by first | (simp; done) | (simp; omega) | omega)⟩))
    (first | (go_at_call 121; clear tok1; refine (l02Mul_out a ca xs a2 ca2 ys N _ (HA.out.below (B.out.drew)) (HA2.out.below (B.out.drew)) (by omega) (by omega) HX.out HY.out HN.out).mono ?_; rintro e W1 ⟨p, c, rfl, hO1, b1⟩; have s1 := b1.size; (try simp at s1)) | (go_at_call 121; clear tok2; refine (l02Mul_out b cb ds b2 cb2 es D _ (HB.out.below (bstepD B.out b1)) (HB2.out.below (bstepD B.out b1)) (by omega) (by omega) HD.out HE.out HD'.out).mono ?_; rintro e W2 ⟨p2, c2, rfl, hO2, b2⟩; have s2 := b2.size; (try simp at s2)) | (go_at_call 107; refine (HL.out _ p c p2 c2 (hO1.below b2).ints hO2.ints).mono ?_; rintro e W3 ⟨p3, c3, p4, c4, rfl, hO, b3⟩; have s3 := b3.size; (try simp at s3); have Rr := (box_step (box_step (box_step (box_drew Rr) b1) b2) b3); have Yr0 := Rr.cell 0 rfl; have Fr0 := Rr.frozen 0; have Yr1 := Rr.cell 1 rfl; have Fr1 := Rr.frozen 1; have Yr2 := Rr.cell 2 rfl; have Fr2 := Rr.frozen 2; have Lr := Rr.lt))
  have sb1 := b1.size
  try simp at sb1
  have sb2 := b2.size
  have sb3 := b3.size
  have O1 := Lib.hid (((hO1.below b2).below b3))
  clear hO1
  have O2 := Lib.hid ((hO2.below b3))
  clear hO2
  have O := Lib.hid (hO)
  clear hO
  have B := Lib.hid (bstep (bstep (bstepD B.out b1) b2) b3)
  clear b1 b2 b3
  go_wp2
  refine bodyPost_ret (v := .agg #[.bool R.neg, .slice p3 R.num.length c3, .slice p4 R.den.length c4]) (by simp [results, Try.results117, go_sem, Yr0, Yr1, Yr2, Lr]) rfl ⟨p3, c3, p4, c4, rfl, ratF_end (by first | omega | (simp; done) | (simp; omega)) (by first | omega | (simp; done) | (simp; omega)) O.out B.out _ _ _⟩

set_option maxHeartbeats 4000000 in
include ha hn hb hm ha2 hn2 hb2 hm2 in
theorem specRatMul_own : Calls Try.prog 60 #[.agg #[.bool n, .slice a xs.length ca, .slice b ds.length cb], .agg #[.bool m, .slice a2 ys.length ca2, .slice b2 es.length cb2]] w (RatRetS w (ratMulP n xs ds m ys es)) := by
  have HA := Lib.hid ha
  have HB := Lib.hid hb
  have HA2 := Lib.hid ha2
  have HB2 := Lib.hid hb2
  clear ha hb ha2 hb2
  by_cases h1 : ratOkB n xs ds = true
  · by_cases h2 : ratOkB m ys es = true
    · skip
      obtain ⟨R, hR⟩ : ∃ R, ratMulP n xs ds m ys es = R := ⟨_, rfl⟩
      have HL : Hid (∀ W, IntsAt W a ca xs → IntsAt W b cb ds → IntsAt W a2 ca2 ys → IntsAt W b2 cb2 es → Calls Try.prog 117 #[.agg #[.bool n, .slice a xs.length ca, .slice b ds.length cb], .agg #[.bool m, .slice a2 ys.length ca2, .slice b2 es.length cb2]] W (RatRetS W R)) := fun W i1 i2 i3 i4 => hR ▸ l04Mul_own n a ca xs b cb ds m a2 ca2 ys b2 cb2 es W i1 hn i2 hm i3 hn2 i4 hm2 h1 h2
      rw [hR]
      clear hR
      go_enter Try.func60, Try.ntmps60
      go_wp2_with fail
      refine (specRatOk_any n a ca xs b cb ds _ (HA.out.below (ba3 _ _ _ _)) hn (HB.out.below (ba3 _ _ _ _)) hm).mono ?_
      rintro e W4 ⟨rfl, b4⟩
      have Rx := bx3_0 b4
      have Ry := bx3_1 b4
      have Rr := bx3_2 b4
      have B := Lib.hid (bstep (ba3 _ _ _ _) b4)
      have sb4 := b4.size
      try simp at sb4
      have Yx0 := Rx.cell 0 rfl
      have Yx1 := Rx.cell 1 rfl
      have Yx2 := Rx.cell 2 rfl
      have Lx := Rx.lt
      have Yy0 := Ry.cell 0 rfl
      have Yy1 := Ry.cell 1 rfl
      have Yy2 := Ry.cell 2 rfl
      have Ly := Ry.lt
      have Yr0 := Rr.cell 0 rfl
      have Yr1 := Rr.cell 1 rfl
      have Yr2 := Rr.cell 2 rfl
      have Lr := Rr.lt
      have Fr0 := Rr.frozen 0
      have Fr1 := Rr.frozen 1
      have Fr2 := Rr.frozen 2
      clear b4
      go_wp2_with fail
      refine (specRatOk_any m a2 ca2 ys b2 cb2 es _ (HA2.out.below B.out) hn2 (HB2.out.below B.out) hm2).mono ?_
      rintro e W5 ⟨rfl, b5⟩
      clear Yx0 Yx1 Yx2 Lx Yy0 Yy1 Yy2 Ly Yr0 Yr1 Yr2 Lr Fr0 Fr1 Fr2
      have Rx := box_step Rx b5
      have Ry := box_step Ry b5
      have Rr := box_step Rr b5
      have B := Lib.hid (bstep B.out b5)
      have sb5 := b5.size
      have Yx0 := Rx.cell 0 rfl
      have Yx1 := Rx.cell 1 rfl
      have Yx2 := Rx.cell 2 rfl
      have Lx := Rx.lt
      have Yy0 := Ry.cell 0 rfl
      have Yy1 := Ry.cell 1 rfl
      have Yy2 := Ry.cell 2 rfl
      have Ly := Ry.lt
      have Yr0 := Rr.cell 0 rfl
      have Yr1 := Rr.cell 1 rfl
      have Yr2 := Rr.cell 2 rfl
      have Lr := Rr.lt
      have Fr0 := Rr.frozen 0
      have Fr1 := Rr.frozen 1
      have Fr2 := Rr.frozen 2
      clear b5
      go_wp2_with fail
      refine (HL.out _ (HA.out.below B.out) (HB.out.below B.out) (HA2.out.below B.out) (HB2.out.below B.out)).mono ?_
      rintro e W6 ⟨p, c, p2, c2, rfl, hO, b6⟩
      clear Yx0 Yx1 Yx2 Lx Yy0 Yy1 Yy2 Ly Yr0 Yr1 Yr2 Lr Fr0 Fr1 Fr2
      have Rx := box_step Rx b6
      have Ry := box_step Ry b6
      have Rr := box_step Rr b6
      have B := Lib.hid (bstep B.out b6)
      have sb6 := b6.size
      have O := Lib.hid hO
      clear hO
      have Yx0 := Rx.cell 0 rfl
      have Yx1 := Rx.cell 1 rfl
      have Yx2 := Rx.cell 2 rfl
      have Lx := Rx.lt
      have Yy0 := Ry.cell 0 rfl
      have Yy1 := Ry.cell 1 rfl
      have Yy2 := Ry.cell 2 rfl
      have Ly := Ry.lt
      have Yr0 := Rr.cell 0 rfl
      have Yr1 := Rr.cell 1 rfl
      have Yr2 := Rr.cell 2 rfl
      have Lr := Rr.lt
      have Fr0 := Rr.frozen 0
      have Fr1 := Rr.frozen 1
      have Fr2 := Rr.frozen 2
      clear b6
      go_wp2
      refine bodyPost_ret (v := .agg #[.bool R.neg, .slice p R.num.length c, .slice p2 R.den.length c2]) (by simp [results, Try.results60, go_sem, Yr0, Yr1, Yr2, Lr]) rfl ⟨p, c, p2, c2, rfl, ratF_end (by first | omega | (simp; done) | (simp; omega)) (by first | omega | (simp; done) | (simp; omega)) O.out B.out _ _ _⟩
    · have h2' := Bool.eq_false_iff.2 h2
      rw [ratMulP_no2 h2']
      go_enter Try.func60, Try.ntmps60
      go_wp2_with fail
      refine (specRatOk_any n a ca xs b cb ds _ (HA.out.below (ba3 _ _ _ _)) hn (HB.out.below (ba3 _ _ _ _)) hm).mono ?_
      rintro e W7 ⟨rfl, b7⟩
      have Rx := bx3_0 b7
      have Ry := bx3_1 b7
      have Rr := bx3_2 b7
      have B := Lib.hid (bstep (ba3 _ _ _ _) b7)
      have sb7 := b7.size
      try simp at sb7
      have Yx0 := Rx.cell 0 rfl
      have Yx1 := Rx.cell 1 rfl
      have Yx2 := Rx.cell 2 rfl
      have Lx := Rx.lt
      have Yy0 := Ry.cell 0 rfl
      have Yy1 := Ry.cell 1 rfl
      have Yy2 := Ry.cell 2 rfl
      have Ly := Ry.lt
      have Yr0 := Rr.cell 0 rfl
      have Yr1 := Rr.cell 1 rfl
      have Yr2 := Rr.cell 2 rfl
      have Lr := Rr.lt
      have Fr0 := Rr.frozen 0
      have Fr1 := Rr.frozen 1
      have Fr2 := Rr.frozen 2
      clear b7
      go_wp2_with fail
      refine (specRatOk_any m a2 ca2 ys b2 cb2 es _ (HA2.out.below B.out) hn2 (HB2.out.below B.out) hm2).mono ?_
      rintro e W8 ⟨rfl, b8⟩
      clear Yx0 Yx1 Yx2 Lx Yy0 Yy1 Yy2 Ly Yr0 Yr1 Yr2 Lr Fr0 Fr1 Fr2
      have Rx := box_step Rx b8
      have Ry := box_step Ry b8
      have Rr := box_step Rr b8
      have B := Lib.hid (bstep B.out b8)
      have sb8 := b8.size
      have Yx0 := Rx.cell 0 rfl
      have Yx1 := Rx.cell 1 rfl
      have Yx2 := Rx.cell 2 rfl
      have Lx := Rx.lt
      have Yy0 := Ry.cell 0 rfl
      have Yy1 := Ry.cell 1 rfl
      have Yy2 := Ry.cell 2 rfl
      have Ly := Ry.lt
      have Yr0 := Rr.cell 0 rfl
      have Yr1 := Rr.cell 1 rfl
      have Yr2 := Rr.cell 2 rfl
      have Lr := Rr.lt
      have Fr0 := Rr.frozen 0
      have Fr1 := Rr.frozen 1
      have Fr2 := Rr.frozen 2
      clear b8
      go_wp2
      refine bodyPost_ret (v := .agg #[.bool false, .slice none 0 0, .slice none 0 0]) (by simp [results, Try.results60, go_sem, Yr0, Yr1, Yr2, Lr]) rfl ⟨none, 0, none, 0, rfl, ratzF_end (by first | omega | (simp; done) | (simp; omega)) B.out _ _ _⟩
  · have h1' := Bool.eq_false_iff.2 h1
    rw [ratMulP_no1 h1']
    go_enter Try.func60, Try.ntmps60
    go_wp2_with fail
    refine (specRatOk_any n a ca xs b cb ds _ (HA.out.below (ba3 _ _ _ _)) hn (HB.out.below (ba3 _ _ _ _)) hm).mono ?_
    rintro e W9 ⟨rfl, b9⟩
    have Rx := bx3_0 b9
    have Ry := bx3_1 b9
    have Rr := bx3_2 b9
    have B := Lib.hid (bstep (ba3 _ _ _ _) b9)
    have sb9 := b9.size
    try simp at sb9
    have Yx0 := Rx.cell 0 rfl
    have Yx1 := Rx.cell 1 rfl
    have Yx2 := Rx.cell 2 rfl
    have Lx := Rx.lt
    have Yy0 := Ry.cell 0 rfl
    have Yy1 := Ry.cell 1 rfl
    have Yy2 := Ry.cell 2 rfl
    have Ly := Ry.lt
    have Yr0 := Rr.cell 0 rfl
    have Yr1 := Rr.cell 1 rfl
    have Yr2 := Rr.cell 2 rfl
    have Lr := Rr.lt
    have Fr0 := Rr.frozen 0
    have Fr1 := Rr.frozen 1
    have Fr2 := Rr.frozen 2
    clear b9
    go_wp2
    refine bodyPost_ret (v := .agg #[.bool false, .slice none 0 0, .slice none 0 0]) (by simp [results, Try.results60, go_sem, Yr0, Yr1, Yr2, Lr]) rfl ⟨none, 0, none, 0, rfl, ratzF_end (by first | omega | (simp; done) | (simp; omega)) B.out _ _ _⟩

include ha hn hb hm ha2 hn2 hb2 hm2 in
theorem specRatMul_any : Calls Try.prog 60 #[.agg #[.bool n, .slice a xs.length ca, .slice b ds.length cb], .agg #[.bool m, .slice a2 ys.length ca2, .slice b2 es.length cb2]] w fun e w' => ∃ p c p2 c2, e = .returned (.agg #[.bool (ratMulP n xs ds m ys es).neg, .slice p (ratMulP n xs ds m ys es).num.length c, .slice p2 (ratMulP n xs ds m ys es).den.length c2]) ∧ IntsAt w' p c (ratMulP n xs ds m ys es).num ∧ IntsAt w' p2 c2 (ratMulP n xs ds m ys es).den ∧ Below w.heap.size w w' :=
  (specRatMul_own n a ca xs b cb ds m a2 ca2 ys b2 cb2 es w ha hn hb hm ha2 hn2 hb2 hm2).mono fun _ _ ⟨p, c, p2, c2, h1, h2, h3⟩ => ⟨p, c, p2, c2, h1, h2.i1, h2.i2, h3⟩

set_option maxRecDepth 100000 in
set_option maxHeartbeats 4000000 in
include ha hn hb hm ha2 hn2 hb2 hm2 in
theorem specRatDiv_own : Calls Try.prog 62 #[.agg #[.bool n, .slice a xs.length ca, .slice b ds.length cb], .agg #[.bool m, .slice a2 ys.length ca2, .slice b2 es.length cb2]] w (RatRetS w (ratDivP n xs ds m ys es)) := by
  have HA := Lib.hid ha
  have HB := Lib.hid hb
  have HA2 := Lib.hid ha2
  have HB2 := Lib.hid hb2
  clear ha hb ha2 hb2
  by_cases h1 : ratOkB n xs ds = true
  · by_cases h2 : ratOkB m ys es = true
    · skip
      have hlx := rok_lx h1
      have hld := rok_ld h1
      have hly := rok_lx h2
      have hle := rok_ld h2
      have HX := Lib.hid (rok_rx h1)
      have HD := Lib.hid (rok_rd h1)
      have HY := Lib.hid (rok_rx h2)
      have HE := Lib.hid (rok_rd h2)
      obtain ⟨N, hN⟩ : ∃ N : Nat, val xs * val es = N := ⟨_, rfl⟩
      have hlN : (digs N).length ≤ 48 := by rw [← hN]; exact digs_mul_len (rok_rx h1) (rok_rd h2) (by omega) (by omega)
      obtain ⟨D, hD⟩ : ∃ N : Nat, val ds * val ys = N := ⟨_, rfl⟩
      have hlD : (digs D).length ≤ 48 := by rw [← hD]; exact digs_mul_len (rok_rd h1) (rok_rx h2) (by omega) (by omega)
      have HN := Lib.hid hN
      have HD' := Lib.hid hD
      obtain ⟨R, hR⟩ : ∃ R, mkRA (n != m) N D = R := ⟨_, rfl⟩
      have HL : Hid (∀ (W : World) (p : Option Addr) (c : Nat) (p2 : Option Addr) (c2 : Nat), IntsAt W p c (digs N) → IntsAt W p2 c2 (digs D) → Calls Try.prog 107 #[.bool (n != m), .slice p (digs N).length c, .slice p2 (digs D).length c2] W (RatRetS W R)) := fun W p c p2 c2 i1 i2 => hR ▸ l04Low_out (n != m) p c N p2 c2 D W i1 (by omega) i2 (by omega)
      rw [ratDivP_yes h1 h2, hN, hD, hR]
      clear hR hN hD
      go_enter Try.func62, Try.ntmps62
      go_wp2_with fail
      refine (specRatOk_any n a ca xs b cb ds _ (HA.out.below (ba3 _ _ _ _)) hn (HB.out.below (ba3 _ _ _ _)) hm).mono ?_
      rintro e W10 ⟨rfl, b10⟩
      have Rx := bx3_0 b10
      have Ry := bx3_1 b10
      have Rr := bx3_2 b10
      have B := Lib.hid (bstep (ba3 _ _ _ _) b10)
      have sb10 := b10.size
      try simp at sb10
      have Yx0 := Rx.cell 0 rfl
      have Yx1 := Rx.cell 1 rfl
      have Yx2 := Rx.cell 2 rfl
      have Lx := Rx.lt
      have Yy0 := Ry.cell 0 rfl
      have Yy1 := Ry.cell 1 rfl
      have Yy2 := Ry.cell 2 rfl
      have Ly := Ry.lt
      have Yr0 := Rr.cell 0 rfl
      have Yr1 := Rr.cell 1 rfl
      have Yr2 := Rr.cell 2 rfl
      have Lr := Rr.lt
      have Fr0 := Rr.frozen 0
      have Fr1 := Rr.frozen 1
      have Fr2 := Rr.frozen 2
      clear b10
      go_wp2_with fail
      refine (specRatOk_any m a2 ca2 ys b2 cb2 es _ (HA2.out.below B.out) hn2 (HB2.out.below B.out) hm2).mono ?_
      rintro e W11 ⟨rfl, b11⟩
      clear Yx0 Yx1 Yx2 Lx Yy0 Yy1 Yy2 Ly Yr0 Yr1 Yr2 Lr Fr0 Fr1 Fr2
      have Rx := box_step Rx b11
      have Ry := box_step Ry b11
      have Rr := box_step Rr b11
      have B := Lib.hid (bstep B.out b11)
      have sb11 := b11.size
      have Yx0 := Rx.cell 0 rfl
      have Yx1 := Rx.cell 1 rfl
      have Yx2 := Rx.cell 2 rfl
      have Lx := Rx.lt
      have Yy0 := Ry.cell 0 rfl
      have Yy1 := Ry.cell 1 rfl
      have Yy2 := Ry.cell 2 rfl
      have Ly := Ry.lt
      have Yr0 := Rr.cell 0 rfl
      have Yr1 := Rr.cell 1 rfl
      have Yr2 := Rr.cell 2 rfl
      have Lr := Rr.lt
      have Fr0 := Rr.frozen 0
      have Fr1 := Rr.frozen 1
      have Fr2 := Rr.frozen 2
      clear b11
      have tok12 : True := trivial
      have tok13 : True := trivial
      go_wp2_with fail
      go_region_held3 (fun w' => w'.cell? ⟨w.heap.size, 0, none⟩ = some (.bool n) ∧ w'.cell? ⟨w.heap.size, 1, none⟩ = some (.slice a xs.length ca) ∧ w'.cell? ⟨w.heap.size, 2, none⟩ = some (.slice b ds.length cb) ∧ w'.cell? ⟨w.heap.size + 1, 0, none⟩ = some (.bool m) ∧ w'.cell? ⟨w.heap.size + 1, 1, none⟩ = some (.slice a2 ys.length ca2) ∧ w'.cell? ⟨w.heap.size + 1, 2, none⟩ = some (.slice b2 es.length cb2))
        ((first | exact ⟨Yx0, Yx1, Yx2, Yy0, Yy1, Yy2⟩ | exact ⟨cell_stepD Yx0 b12, cell_stepD Yx1 b12, cell_stepD Yx2 b12, cell_stepD Yy0 b12, cell_stepD Yy1 b12, cell_stepD Yy2 b12⟩ | exact ⟨cell_step (cell_stepD Yx0 b12) b13, cell_step (cell_stepD Yx1 b12) b13, cell_step (cell_stepD Yx2 b12) b13, cell_step (cell_stepD Yy0 b12) b13, cell_step (cell_stepD Yy1 b12) b13, cell_step (cell_stepD Yy2 b12) b13⟩ | exact ⟨cell_step (cell_step (cell_stepD Yx0 b12) b13) b14, cell_step (cell_step (cell_stepD Yx1 b12) b13) b14, cell_step (cell_step (cell_stepD Yx2 b12) b13) b14, cell_step (cell_step (cell_stepD Yy0 b12) b13) b14, cell_step (cell_step (cell_stepD Yy1 b12) b13) b14, cell_step (cell_step (cell_stepD Yy2 b12) b13) b14⟩ | exact ⟨cell_low (cell_low (cell_low (cell_step (cell_step (cell_stepD Yx0 b12) b13) b14) (by first | (simp; done) | (simp; omega) | omega)) (by first | (simp; done) | (simp; omega) | omega)) (by first | (simp; done) | (simp; omega) | omega), cell_low (cell_low (cell_low (cell_step (cell_step (cell_stepD Yx1 b12) b13) b14) (by first | (simp; done) | (simp; omega) | omega)) (by first | (simp; done) | (simp; omega) | omega)) (by first | (simp; done) | (simp; omega) | omega), cell_low (cell_low (cell_low (cell_step (cell_step (cell_stepD Yx2 b12) b13) b14) (by first | (simp; done) | (simp; omega) | omega)) (by first | (simp; done) | (simp; omega) | omega)) (by first | (simp; done) | (simp; omega) | omega), cell_low (cell_low (cell_low (cell_step (cell_step (cell_stepD Yy0 b12) b13) b14) (by first | (simp; done) | (simp; omega) | omega)) (by first | (simp; done) | (simp; omega) | omega)) (by first | (simp; done) | (simp; omega) | omega), cell_low (cell_low (cell_low (cell_step (cell_step (cell_stepD Yy1 b12) b13) b14) (by first | (simp; done) | (simp; omega) | omega)) (by first | (simp; done) | (simp; omega) | omega)) (by first | (simp; done) | (simp; omega) | omega), cell_low (cell_low (cell_low (cell_step (cell_step (cell_stepD Yy2 b12) b13) b14) (by first | (simp; done) | (simp; omega) | omega)) (by first | (simp; done) | (simp; omega) | omega)) (by first | (simp; done) | (simp; omega) | omega)⟩))
        (first | (go_at_call 121; clear tok12; refine (l02Mul_out a ca xs b2 cb2 es N _ (HA.out.below (B.out.drew)) (HB2.out.below (B.out.drew)) (by omega) (by omega) HX.out HE.out HN.out).mono ?_; rintro e W12 ⟨p, c, rfl, hO1, b12⟩; have s12 := b12.size; (try simp at s12)) | (go_at_call 121; clear tok13; refine (l02Mul_out b cb ds a2 ca2 ys D _ (HB.out.below (bstepD B.out b12)) (HA2.out.below (bstepD B.out b12)) (by omega) (by omega) HD.out HY.out HD'.out).mono ?_; rintro e W13 ⟨p2, c2, rfl, hO2, b13⟩; have s13 := b13.size; (try simp at s13)) | (go_at_call 107; refine (HL.out _ p c p2 c2 (hO1.below b13).ints hO2.ints).mono ?_; rintro e W14 ⟨p3, c3, p4, c4, rfl, hO, b14⟩; have s14 := b14.size; (try simp at s14); have Rr := (box_step (box_step (box_step (box_drew Rr) b12) b13) b14); have Yr0 := Rr.cell 0 rfl; have Fr0 := Rr.frozen 0; have Yr1 := Rr.cell 1 rfl; have Fr1 := Rr.frozen 1; have Yr2 := Rr.cell 2 rfl; have Fr2 := Rr.frozen 2; have Lr := Rr.lt))
      have sb12 := b12.size
      try simp at sb12
      have sb13 := b13.size
      have sb14 := b14.size
      have O1 := Lib.hid (((hO1.below b13).below b14))
      clear hO1
      have O2 := Lib.hid ((hO2.below b14))
      clear hO2
      have O := Lib.hid (hO)
      clear hO
      have B := Lib.hid (bstep (bstep (bstepD B.out b12) b13) b14)
      clear b12 b13 b14
      go_wp2
      refine bodyPost_ret (v := .agg #[.bool R.neg, .slice p3 R.num.length c3, .slice p4 R.den.length c4]) (by simp [results, Try.results62, go_sem, Yr0, Yr1, Yr2, Lr]) rfl ⟨p3, c3, p4, c4, rfl, ratF_end (by first | omega | (simp; done) | (simp; omega)) (by first | omega | (simp; done) | (simp; omega)) O.out B.out _ _ _⟩
    · have h2' := Bool.eq_false_iff.2 h2
      rw [ratDivP_no2 h2']
      go_enter Try.func62, Try.ntmps62
      go_wp2_with fail
      refine (specRatOk_any n a ca xs b cb ds _ (HA.out.below (ba3 _ _ _ _)) hn (HB.out.below (ba3 _ _ _ _)) hm).mono ?_
      rintro e W15 ⟨rfl, b15⟩
      have Rx := bx3_0 b15
      have Ry := bx3_1 b15
      have Rr := bx3_2 b15
      have B := Lib.hid (bstep (ba3 _ _ _ _) b15)
      have sb15 := b15.size
      try simp at sb15
      have Yx0 := Rx.cell 0 rfl
      have Yx1 := Rx.cell 1 rfl
      have Yx2 := Rx.cell 2 rfl
      have Lx := Rx.lt
      have Yy0 := Ry.cell 0 rfl
      have Yy1 := Ry.cell 1 rfl
      have Yy2 := Ry.cell 2 rfl
      have Ly := Ry.lt
      have Yr0 := Rr.cell 0 rfl
      have Yr1 := Rr.cell 1 rfl
      have Yr2 := Rr.cell 2 rfl
      have Lr := Rr.lt
      have Fr0 := Rr.frozen 0
      have Fr1 := Rr.frozen 1
      have Fr2 := Rr.frozen 2
      clear b15
      go_wp2_with fail
      refine (specRatOk_any m a2 ca2 ys b2 cb2 es _ (HA2.out.below B.out) hn2 (HB2.out.below B.out) hm2).mono ?_
      rintro e W16 ⟨rfl, b16⟩
      clear Yx0 Yx1 Yx2 Lx Yy0 Yy1 Yy2 Ly Yr0 Yr1 Yr2 Lr Fr0 Fr1 Fr2
      have Rx := box_step Rx b16
      have Ry := box_step Ry b16
      have Rr := box_step Rr b16
      have B := Lib.hid (bstep B.out b16)
      have sb16 := b16.size
      have Yx0 := Rx.cell 0 rfl
      have Yx1 := Rx.cell 1 rfl
      have Yx2 := Rx.cell 2 rfl
      have Lx := Rx.lt
      have Yy0 := Ry.cell 0 rfl
      have Yy1 := Ry.cell 1 rfl
      have Yy2 := Ry.cell 2 rfl
      have Ly := Ry.lt
      have Yr0 := Rr.cell 0 rfl
      have Yr1 := Rr.cell 1 rfl
      have Yr2 := Rr.cell 2 rfl
      have Lr := Rr.lt
      have Fr0 := Rr.frozen 0
      have Fr1 := Rr.frozen 1
      have Fr2 := Rr.frozen 2
      clear b16
      go_wp2
      refine bodyPost_ret (v := .agg #[.bool false, .slice none 0 0, .slice none 0 0]) (by simp [results, Try.results62, go_sem, Yr0, Yr1, Yr2, Lr]) rfl ⟨none, 0, none, 0, rfl, ratzF_end (by first | omega | (simp; done) | (simp; omega)) B.out _ _ _⟩
  · have h1' := Bool.eq_false_iff.2 h1
    rw [ratDivP_no1 h1']
    go_enter Try.func62, Try.ntmps62
    go_wp2_with fail
    refine (specRatOk_any n a ca xs b cb ds _ (HA.out.below (ba3 _ _ _ _)) hn (HB.out.below (ba3 _ _ _ _)) hm).mono ?_
    rintro e W17 ⟨rfl, b17⟩
    have Rx := bx3_0 b17
    have Ry := bx3_1 b17
    have Rr := bx3_2 b17
    have B := Lib.hid (bstep (ba3 _ _ _ _) b17)
    have sb17 := b17.size
    try simp at sb17
    have Yx0 := Rx.cell 0 rfl
    have Yx1 := Rx.cell 1 rfl
    have Yx2 := Rx.cell 2 rfl
    have Lx := Rx.lt
    have Yy0 := Ry.cell 0 rfl
    have Yy1 := Ry.cell 1 rfl
    have Yy2 := Ry.cell 2 rfl
    have Ly := Ry.lt
    have Yr0 := Rr.cell 0 rfl
    have Yr1 := Rr.cell 1 rfl
    have Yr2 := Rr.cell 2 rfl
    have Lr := Rr.lt
    have Fr0 := Rr.frozen 0
    have Fr1 := Rr.frozen 1
    have Fr2 := Rr.frozen 2
    clear b17
    go_wp2
    refine bodyPost_ret (v := .agg #[.bool false, .slice none 0 0, .slice none 0 0]) (by simp [results, Try.results62, go_sem, Yr0, Yr1, Yr2, Lr]) rfl ⟨none, 0, none, 0, rfl, ratzF_end (by first | omega | (simp; done) | (simp; omega)) B.out _ _ _⟩

include ha hn hb hm ha2 hn2 hb2 hm2 in
theorem specRatDiv_any : Calls Try.prog 62 #[.agg #[.bool n, .slice a xs.length ca, .slice b ds.length cb], .agg #[.bool m, .slice a2 ys.length ca2, .slice b2 es.length cb2]] w fun e w' => ∃ p c p2 c2, e = .returned (.agg #[.bool (ratDivP n xs ds m ys es).neg, .slice p (ratDivP n xs ds m ys es).num.length c, .slice p2 (ratDivP n xs ds m ys es).den.length c2]) ∧ IntsAt w' p c (ratDivP n xs ds m ys es).num ∧ IntsAt w' p2 c2 (ratDivP n xs ds m ys es).den ∧ Below w.heap.size w w' :=
  (specRatDiv_own n a ca xs b cb ds m a2 ca2 ys b2 cb2 es w ha hn hb hm ha2 hn2 hb2 hm2).mono fun _ _ ⟨p, c, p2, c2, h1, h2, h3⟩ => ⟨p, c, p2, c2, h1, h2.i1, h2.i2, h3⟩

set_option maxHeartbeats 4000000 in
set_option maxRecDepth 100000 in
include ha hn hb hm ha2 hn2 hb2 hm2 in
theorem l04Cmp_any (h1 : ratOkB n xs ds = true) (h2 : ratOkB m ys es = true) : Calls Try.prog 115 #[.agg #[.bool n, .slice a xs.length ca, .slice b ds.length cb], .agg #[.bool m, .slice a2 ys.length ca2, .slice b2 es.length cb2]] w (fun e w' => e = .returned (.int .i64 (ratCmpV n xs ds m ys es)) ∧ Below w.heap.size w w') := by
  have hlx := rok_lx h1
  have hld := rok_ld h1
  have hly := rok_lx h2
  have hle := rok_ld h2
  have HX := Lib.hid (rok_rx h1)
  have HD := Lib.hid (rok_rd h1)
  have HY := Lib.hid (rok_rx h2)
  have HE := Lib.hid (rok_rd h2)
  obtain ⟨N, hN⟩ : ∃ N : Nat, val xs * val es = N := ⟨_, rfl⟩
  have hlN : (digs N).length ≤ 48 := by rw [← hN]; exact digs_mul_len (rok_rx h1) (rok_rd h2) (by omega) (by omega)
  obtain ⟨D, hD⟩ : ∃ N : Nat, val ys * val ds = N := ⟨_, rfl⟩
  have hlD : (digs D).length ≤ 48 := by rw [← hD]; exact digs_mul_len (rok_rx h2) (rok_rd h1) (by omega) (by omega)
  have HN := Lib.hid hN
  have HD' := Lib.hid hD
  have HC : Hid (bigCmpL (mkBI n (digs N)).neg (digs N) (mkBI m (digs D)).neg (digs D) = ratCmpV n xs ds m ys es) := by
    unfold Hid ratCmpV
    rw [cmp_mk, toI_scale, toI_scale, hN, hD]
  clear hN hD h1 h2
  have HA := Lib.hid ha
  have HB := Lib.hid hb
  have HA2 := Lib.hid ha2
  have HB2 := Lib.hid hb2
  clear ha hb ha2 hb2
  have Rx : Box ((w.alloc (.cells #[.bool n, .slice a xs.length ca, .slice b ds.length cb] 26)).alloc (.cells #[.bool m, .slice a2 ys.length ca2, .slice b2 es.length cb2] 26)) (w.heap.size) #[.bool n, .slice a xs.length ca, .slice b ds.length cb] := bx2_0 (Below.refl _ _)
  have Ry : Box ((w.alloc (.cells #[.bool n, .slice a xs.length ca, .slice b ds.length cb] 26)).alloc (.cells #[.bool m, .slice a2 ys.length ca2, .slice b2 es.length cb2] 26)) (w.heap.size + 1) #[.bool m, .slice a2 ys.length ca2, .slice b2 es.length cb2] := bx2_1 (Below.refl _ _)
  have B : Hid (Below w.heap.size w ((w.alloc (.cells #[.bool n, .slice a xs.length ca, .slice b ds.length cb] 26)).alloc (.cells #[.bool m, .slice a2 ys.length ca2, .slice b2 es.length cb2] 26))) := Lib.hid (ba2 _ _ _)
  have Yx0 : ((w.alloc (.cells #[.bool n, .slice a xs.length ca, .slice b ds.length cb] 26)).alloc (.cells #[.bool m, .slice a2 ys.length ca2, .slice b2 es.length cb2] 26)).cell? ⟨w.heap.size, 0, none⟩ = some (.bool n) := Rx.cell 0 rfl
  have Yx1 : ((w.alloc (.cells #[.bool n, .slice a xs.length ca, .slice b ds.length cb] 26)).alloc (.cells #[.bool m, .slice a2 ys.length ca2, .slice b2 es.length cb2] 26)).cell? ⟨w.heap.size, 1, none⟩ = some (.slice a xs.length ca) := Rx.cell 1 rfl
  have Yx2 : ((w.alloc (.cells #[.bool n, .slice a xs.length ca, .slice b ds.length cb] 26)).alloc (.cells #[.bool m, .slice a2 ys.length ca2, .slice b2 es.length cb2] 26)).cell? ⟨w.heap.size, 2, none⟩ = some (.slice b ds.length cb) := Rx.cell 2 rfl
  have Yy0 : ((w.alloc (.cells #[.bool n, .slice a xs.length ca, .slice b ds.length cb] 26)).alloc (.cells #[.bool m, .slice a2 ys.length ca2, .slice b2 es.length cb2] 26)).cell? ⟨w.heap.size + 1, 0, none⟩ = some (.bool m) := Ry.cell 0 rfl
  have Yy1 : ((w.alloc (.cells #[.bool n, .slice a xs.length ca, .slice b ds.length cb] 26)).alloc (.cells #[.bool m, .slice a2 ys.length ca2, .slice b2 es.length cb2] 26)).cell? ⟨w.heap.size + 1, 1, none⟩ = some (.slice a2 ys.length ca2) := Ry.cell 1 rfl
  have Yy2 : ((w.alloc (.cells #[.bool n, .slice a xs.length ca, .slice b ds.length cb] 26)).alloc (.cells #[.bool m, .slice a2 ys.length ca2, .slice b2 es.length cb2] 26)).cell? ⟨w.heap.size + 1, 2, none⟩ = some (.slice b2 es.length cb2) := Ry.cell 2 rfl
  go_enter Try.func115, Try.ntmps115
  have tok18 : True := trivial
  have tok19 : True := trivial
  have tok20 : True := trivial
  have tok21 : True := trivial
  go_wp2_with fail
  go_region_held3 (fun w' => w'.cell? ⟨w.heap.size, 0, none⟩ = some (.bool n) ∧ w'.cell? ⟨w.heap.size, 1, none⟩ = some (.slice a xs.length ca) ∧ w'.cell? ⟨w.heap.size, 2, none⟩ = some (.slice b ds.length cb) ∧ w'.cell? ⟨w.heap.size + 1, 0, none⟩ = some (.bool m) ∧ w'.cell? ⟨w.heap.size + 1, 1, none⟩ = some (.slice a2 ys.length ca2) ∧ w'.cell? ⟨w.heap.size + 1, 2, none⟩ = some (.slice b2 es.length cb2))
    ((first | exact ⟨Yx0, Yx1, Yx2, Yy0, Yy1, Yy2⟩ | exact ⟨cell_stepD Yx0 b18, cell_stepD Yx1 b18, cell_stepD Yx2 b18, cell_stepD Yy0 b18, cell_stepD Yy1 b18, cell_stepD Yy2 b18⟩ | exact ⟨cell_step (cell_stepD Yx0 b18) b19, cell_step (cell_stepD Yx1 b18) b19, cell_step (cell_stepD Yx2 b18) b19, cell_step (cell_stepD Yy0 b18) b19, cell_step (cell_stepD Yy1 b18) b19, cell_step (cell_stepD Yy2 b18) b19⟩ | exact ⟨cell_step (cell_step (cell_stepD Yx0 b18) b19) b20, cell_step (cell_step (cell_stepD Yx1 b18) b19) b20, cell_step (cell_step (cell_stepD Yx2 b18) b19) b20, cell_step (cell_step (cell_stepD Yy0 b18) b19) b20, cell_step (cell_step (cell_stepD Yy1 b18) b19) b20, cell_step (cell_step (cell_stepD Yy2 b18) b19) b20⟩ | exact ⟨cell_step (cell_step (cell_step (cell_stepD Yx0 b18) b19) b20) b21, cell_step (cell_step (cell_step (cell_stepD Yx1 b18) b19) b20) b21, cell_step (cell_step (cell_step (cell_stepD Yx2 b18) b19) b20) b21, cell_step (cell_step (cell_step (cell_stepD Yy0 b18) b19) b20) b21, cell_step (cell_step (cell_step (cell_stepD Yy1 b18) b19) b20) b21, cell_step (cell_step (cell_step (cell_stepD Yy2 b18) b19) b20) b21⟩ | exact ⟨cell_step (cell_step (cell_step (cell_step (cell_stepD Yx0 b18) b19) b20) b21) b22, cell_step (cell_step (cell_step (cell_step (cell_stepD Yx1 b18) b19) b20) b21) b22, cell_step (cell_step (cell_step (cell_step (cell_stepD Yx2 b18) b19) b20) b21) b22, cell_step (cell_step (cell_step (cell_step (cell_stepD Yy0 b18) b19) b20) b21) b22, cell_step (cell_step (cell_step (cell_step (cell_stepD Yy1 b18) b19) b20) b21) b22, cell_step (cell_step (cell_step (cell_step (cell_stepD Yy2 b18) b19) b20) b21) b22⟩))
    (first | (go_at_call 121; clear tok18; refine (l02Mul_out a ca xs b2 cb2 es N _ (HA.out.below (B.out.drew)) (HB2.out.below (B.out.drew)) (by omega) (by omega) HX.out HE.out HN.out).mono ?_; rintro e W18 ⟨p, c, rfl, hO1, b18⟩; have s18 := b18.size; (try simp at s18)) | (go_at_call 126; clear tok19; refine (l03Make_dig n N p c _ hO1.ints (by omega)).mono ?_; rintro e W19 ⟨p2, c2, rfl, hO2, b19⟩; have s19 := b19.size; (try simp at s19)) | (go_at_call 121; clear tok20; refine (l02Mul_out a2 ca2 ys b cb ds D _ (HA2.out.below (bstep (bstepD B.out b18) b19)) (HB.out.below (bstep (bstepD B.out b18) b19)) (by omega) (by omega) HY.out HD.out HD'.out).mono ?_; rintro e W20 ⟨p3, c3, rfl, hO3, b20⟩; have s20 := b20.size; (try simp at s20)) | (go_at_call 126; clear tok21; refine (l03Make_dig m D p3 c3 _ hO3.ints (by omega)).mono ?_; rintro e W21 ⟨p4, c4, rfl, hO4, b21⟩; have s21 := b21.size; (try simp at s21)) | (go_at_call 141; refine (l03Cmp_any (mkBI n (digs N)).neg p2 c2 (digs N) (mkBI m (digs D)).neg p4 c4 (digs D) _ ((hO2.below b20).below b21).ints (by omega) hO4.ints (by omega)).mono ?_; rintro e W22 ⟨rfl, b22⟩; have s22 := b22.size; (try simp at s22)))
  have sb18 := b18.size
  try simp at sb18
  have sb19 := b19.size
  have sb20 := b20.size
  have sb21 := b21.size
  have sb22 := b22.size
  have O1 := Lib.hid (((((hO1.below b19).below b20).below b21).below b22))
  clear hO1
  have O2 := Lib.hid ((((hO2.below b20).below b21).below b22))
  clear hO2
  have O3 := Lib.hid (((hO3.below b21).below b22))
  clear hO3
  have O4 := Lib.hid ((hO4.below b22))
  clear hO4
  have B := Lib.hid (bstep (bstep (bstep (bstep (bstepD B.out b18) b19) b20) b21) b22)
  clear Yx0 Yx1 Yx2 Yy0 Yy1 Yy2
  have Rx := (box_step (box_step (box_step (box_step (box_step (box_drew Rx) b18) b19) b20) b21) b22)
  have Ry := (box_step (box_step (box_step (box_step (box_step (box_drew Ry) b18) b19) b20) b21) b22)
  have Yx0 := Rx.cell 0 rfl
  have Yx1 := Rx.cell 1 rfl
  have Yx2 := Rx.cell 2 rfl
  have Lx := Rx.lt
  have Yy0 := Ry.cell 0 rfl
  have Yy1 := Ry.cell 1 rfl
  have Yy2 := Ry.cell 2 rfl
  have Ly := Ry.lt
  clear b18 b19 b20 b21 b22
  go_wp2
  go_ret
  exact ⟨ret_int HC.out, B.out⟩

set_option maxHeartbeats 4000000 in
include ha hn hb hm ha2 hn2 hb2 hm2 in
theorem specRatCmp_any : Calls Try.prog 58 #[.agg #[.bool n, .slice a xs.length ca, .slice b ds.length cb], .agg #[.bool m, .slice a2 ys.length ca2, .slice b2 es.length cb2]] w (fun e w' => e = .returned (.int .i64 (ratCmpP n xs ds m ys es)) ∧ Below w.heap.size w w') := by
  have HA := Lib.hid ha
  have HB := Lib.hid hb
  have HA2 := Lib.hid ha2
  have HB2 := Lib.hid hb2
  clear ha hb ha2 hb2
  by_cases h1 : ratOkB n xs ds = true
  · by_cases h2 : ratOkB m ys es = true
    · skip
      rw [ratCmpP_yes h1 h2]
      go_enter Try.func58, Try.ntmps58
      go_wp2_with fail
      refine (specRatOk_any n a ca xs b cb ds _ (HA.out.below (ba2 _ _ _)) hn (HB.out.below (ba2 _ _ _)) hm).mono ?_
      rintro e W23 ⟨rfl, b23⟩
      have Rx := bx2_0 b23
      have Ry := bx2_1 b23
      have B := Lib.hid (bstep (ba2 _ _ _) b23)
      have sb23 := b23.size
      try simp at sb23
      have Yx0 := Rx.cell 0 rfl
      have Yx1 := Rx.cell 1 rfl
      have Yx2 := Rx.cell 2 rfl
      have Lx := Rx.lt
      have Yy0 := Ry.cell 0 rfl
      have Yy1 := Ry.cell 1 rfl
      have Yy2 := Ry.cell 2 rfl
      have Ly := Ry.lt
      clear b23
      go_wp2_with fail
      refine (specRatOk_any m a2 ca2 ys b2 cb2 es _ (HA2.out.below B.out) hn2 (HB2.out.below B.out) hm2).mono ?_
      rintro e W24 ⟨rfl, b24⟩
      clear Yx0 Yx1 Yx2 Lx Yy0 Yy1 Yy2 Ly
      have Rx := box_step Rx b24
      have Ry := box_step Ry b24
      have B := Lib.hid (bstep B.out b24)
      have sb24 := b24.size
      have Yx0 := Rx.cell 0 rfl
      have Yx1 := Rx.cell 1 rfl
      have Yx2 := Rx.cell 2 rfl
      have Lx := Rx.lt
      have Yy0 := Ry.cell 0 rfl
      have Yy1 := Ry.cell 1 rfl
      have Yy2 := Ry.cell 2 rfl
      have Ly := Ry.lt
      clear b24
      go_wp2_with fail
      refine (l04Cmp_any n a ca xs b cb ds m a2 ca2 ys b2 cb2 es _ (HA.out.below B.out) hn (HB.out.below B.out) hm (HA2.out.below B.out) hn2 (HB2.out.below B.out) hm2 h1 h2).mono ?_
      rintro e W25 ⟨rfl, b25⟩
      clear Yx0 Yx1 Yx2 Lx Yy0 Yy1 Yy2 Ly
      have Rx := box_step Rx b25
      have Ry := box_step Ry b25
      have B := Lib.hid (bstep B.out b25)
      have sb25 := b25.size
      have Yx0 := Rx.cell 0 rfl
      have Yx1 := Rx.cell 1 rfl
      have Yx2 := Rx.cell 2 rfl
      have Lx := Rx.lt
      have Yy0 := Ry.cell 0 rfl
      have Yy1 := Ry.cell 1 rfl
      have Yy2 := Ry.cell 2 rfl
      have Ly := Ry.lt
      clear b25
      go_wp2
      go_ret
      exact ⟨rfl, B.out⟩
    · have h2' := Bool.eq_false_iff.2 h2
      rw [ratCmpP_no2 h2']
      go_enter Try.func58, Try.ntmps58
      go_wp2_with fail
      refine (specRatOk_any n a ca xs b cb ds _ (HA.out.below (ba2 _ _ _)) hn (HB.out.below (ba2 _ _ _)) hm).mono ?_
      rintro e W26 ⟨rfl, b26⟩
      have Rx := bx2_0 b26
      have Ry := bx2_1 b26
      have B := Lib.hid (bstep (ba2 _ _ _) b26)
      have sb26 := b26.size
      try simp at sb26
      have Yx0 := Rx.cell 0 rfl
      have Yx1 := Rx.cell 1 rfl
      have Yx2 := Rx.cell 2 rfl
      have Lx := Rx.lt
      have Yy0 := Ry.cell 0 rfl
      have Yy1 := Ry.cell 1 rfl
      have Yy2 := Ry.cell 2 rfl
      have Ly := Ry.lt
      clear b26
      go_wp2_with fail
      refine (specRatOk_any m a2 ca2 ys b2 cb2 es _ (HA2.out.below B.out) hn2 (HB2.out.below B.out) hm2).mono ?_
      rintro e W27 ⟨rfl, b27⟩
      clear Yx0 Yx1 Yx2 Lx Yy0 Yy1 Yy2 Ly
      have Rx := box_step Rx b27
      have Ry := box_step Ry b27
      have B := Lib.hid (bstep B.out b27)
      have sb27 := b27.size
      have Yx0 := Rx.cell 0 rfl
      have Yx1 := Rx.cell 1 rfl
      have Yx2 := Rx.cell 2 rfl
      have Lx := Rx.lt
      have Yy0 := Ry.cell 0 rfl
      have Yy1 := Ry.cell 1 rfl
      have Yy2 := Ry.cell 2 rfl
      have Ly := Ry.lt
      clear b27
      go_wp2
      go_ret
      exact ⟨rfl, B.out⟩
  · have h1' := Bool.eq_false_iff.2 h1
    rw [ratCmpP_no1 h1']
    go_enter Try.func58, Try.ntmps58
    go_wp2_with fail
    refine (specRatOk_any n a ca xs b cb ds _ (HA.out.below (ba2 _ _ _)) hn (HB.out.below (ba2 _ _ _)) hm).mono ?_
    rintro e W28 ⟨rfl, b28⟩
    have Rx := bx2_0 b28
    have Ry := bx2_1 b28
    have B := Lib.hid (bstep (ba2 _ _ _) b28)
    have sb28 := b28.size
    try simp at sb28
    have Yx0 := Rx.cell 0 rfl
    have Yx1 := Rx.cell 1 rfl
    have Yx2 := Rx.cell 2 rfl
    have Lx := Rx.lt
    have Yy0 := Ry.cell 0 rfl
    have Yy1 := Ry.cell 1 rfl
    have Yy2 := Ry.cell 2 rfl
    have Ly := Ry.lt
    clear b28
    go_wp2
    go_ret
    exact ⟨rfl, B.out⟩

set_option maxHeartbeats 4000000 in
include ha hn hb hm ha2 hn2 hb2 hm2 in
theorem specRatMin_own : Calls Try.prog 66 #[.agg #[.bool n, .slice a xs.length ca, .slice b ds.length cb], .agg #[.bool m, .slice a2 ys.length ca2, .slice b2 es.length cb2]] w (RatRetS w (ratMinP n xs ds m ys es)) := by
  have HA := Lib.hid ha
  have HB := Lib.hid hb
  have HA2 := Lib.hid ha2
  have HB2 := Lib.hid hb2
  clear ha hb ha2 hb2
  by_cases h1 : ratOkB n xs ds = true
  · by_cases h2 : ratOkB m ys es = true
    · skip
      have k1 := rok_lx h1
      have k2 := rok_ld h1
      have k3 := rok_lx h2
      have k4 := rok_ld h2
      by_cases h3 : ratCmpV n xs ds m ys es ≤ 0
      · have h3' : decide (ratCmpV n xs ds m ys es ≤ 0) = true := decide_eq_true h3
        rw [ratMinP_le h1 h2 h3]
        go_enter Try.func66, Try.ntmps66
        go_wp2_with fail
        refine (specRatOk_any n a ca xs b cb ds _ (HA.out.below (ba3 _ _ _ _)) hn (HB.out.below (ba3 _ _ _ _)) hm).mono ?_
        rintro e W29 ⟨rfl, b29⟩
        have Rx := bx3_0 b29
        have Ry := bx3_1 b29
        have Rr := bx3_2 b29
        have B := Lib.hid (bstep (ba3 _ _ _ _) b29)
        have sb29 := b29.size
        try simp at sb29
        have Yx0 := Rx.cell 0 rfl
        have Yx1 := Rx.cell 1 rfl
        have Yx2 := Rx.cell 2 rfl
        have Lx := Rx.lt
        have Yy0 := Ry.cell 0 rfl
        have Yy1 := Ry.cell 1 rfl
        have Yy2 := Ry.cell 2 rfl
        have Ly := Ry.lt
        have Yr0 := Rr.cell 0 rfl
        have Yr1 := Rr.cell 1 rfl
        have Yr2 := Rr.cell 2 rfl
        have Lr := Rr.lt
        have Fr0 := Rr.frozen 0
        have Fr1 := Rr.frozen 1
        have Fr2 := Rr.frozen 2
        clear b29
        go_wp2_with fail
        refine (specRatOk_any m a2 ca2 ys b2 cb2 es _ (HA2.out.below B.out) hn2 (HB2.out.below B.out) hm2).mono ?_
        rintro e W30 ⟨rfl, b30⟩
        clear Yx0 Yx1 Yx2 Lx Yy0 Yy1 Yy2 Ly Yr0 Yr1 Yr2 Lr Fr0 Fr1 Fr2
        have Rx := box_step Rx b30
        have Ry := box_step Ry b30
        have Rr := box_step Rr b30
        have B := Lib.hid (bstep B.out b30)
        have sb30 := b30.size
        have Yx0 := Rx.cell 0 rfl
        have Yx1 := Rx.cell 1 rfl
        have Yx2 := Rx.cell 2 rfl
        have Lx := Rx.lt
        have Yy0 := Ry.cell 0 rfl
        have Yy1 := Ry.cell 1 rfl
        have Yy2 := Ry.cell 2 rfl
        have Ly := Ry.lt
        have Yr0 := Rr.cell 0 rfl
        have Yr1 := Rr.cell 1 rfl
        have Yr2 := Rr.cell 2 rfl
        have Lr := Rr.lt
        have Fr0 := Rr.frozen 0
        have Fr1 := Rr.frozen 1
        have Fr2 := Rr.frozen 2
        clear b30
        go_wp2_with fail
        refine (l04Cmp_any n a ca xs b cb ds m a2 ca2 ys b2 cb2 es _ (HA.out.below B.out) hn (HB.out.below B.out) hm (HA2.out.below B.out) hn2 (HB2.out.below B.out) hm2 h1 h2).mono ?_
        rintro e W31 ⟨rfl, b31⟩
        clear Yx0 Yx1 Yx2 Lx Yy0 Yy1 Yy2 Ly Yr0 Yr1 Yr2 Lr Fr0 Fr1 Fr2
        have Rx := box_step Rx b31
        have Ry := box_step Ry b31
        have Rr := box_step Rr b31
        have B := Lib.hid (bstep B.out b31)
        have sb31 := b31.size
        have Yx0 := Rx.cell 0 rfl
        have Yx1 := Rx.cell 1 rfl
        have Yx2 := Rx.cell 2 rfl
        have Lx := Rx.lt
        have Yy0 := Ry.cell 0 rfl
        have Yy1 := Ry.cell 1 rfl
        have Yy2 := Ry.cell 2 rfl
        have Ly := Ry.lt
        have Yr0 := Rr.cell 0 rfl
        have Yr1 := Rr.cell 1 rfl
        have Yr2 := Rr.cell 2 rfl
        have Lr := Rr.lt
        have Fr0 := Rr.frozen 0
        have Fr1 := Rr.frozen 1
        have Fr2 := Rr.frozen 2
        clear b31
        go_wp2_with fail
        refine (l04Copy_own n a ca xs b cb ds _ (HA.out.below B.out) hn (HB.out.below B.out) hm k1 k2).mono ?_
        rintro e W32 ⟨p, c, p2, c2, rfl, hO, b32⟩
        clear Yx0 Yx1 Yx2 Lx Yy0 Yy1 Yy2 Ly Yr0 Yr1 Yr2 Lr Fr0 Fr1 Fr2
        have Rx := box_step Rx b32
        have Ry := box_step Ry b32
        have Rr := box_step Rr b32
        have B := Lib.hid (bstep B.out b32)
        have sb32 := b32.size
        have O := Lib.hid hO
        clear hO
        have Yx0 := Rx.cell 0 rfl
        have Yx1 := Rx.cell 1 rfl
        have Yx2 := Rx.cell 2 rfl
        have Lx := Rx.lt
        have Yy0 := Ry.cell 0 rfl
        have Yy1 := Ry.cell 1 rfl
        have Yy2 := Ry.cell 2 rfl
        have Ly := Ry.lt
        have Yr0 := Rr.cell 0 rfl
        have Yr1 := Rr.cell 1 rfl
        have Yr2 := Rr.cell 2 rfl
        have Lr := Rr.lt
        have Fr0 := Rr.frozen 0
        have Fr1 := Rr.frozen 1
        have Fr2 := Rr.frozen 2
        clear b32
        go_wp2
        refine bodyPost_ret (v := .agg #[.bool n, .slice p xs.length c, .slice p2 ds.length c2]) (by simp [results, Try.results66, go_sem, Yr0, Yr1, Yr2, Lr]) rfl ⟨p, c, p2, c2, rfl, ratF_end (by first | omega | (simp; done) | (simp; omega)) (by first | omega | (simp; done) | (simp; omega)) O.out B.out _ _ _⟩
      · have h3' : decide (ratCmpV n xs ds m ys es ≤ 0) = false := decide_eq_false h3
        rw [ratMinP_gt h1 h2 h3]
        go_enter Try.func66, Try.ntmps66
        go_wp2_with fail
        refine (specRatOk_any n a ca xs b cb ds _ (HA.out.below (ba3 _ _ _ _)) hn (HB.out.below (ba3 _ _ _ _)) hm).mono ?_
        rintro e W33 ⟨rfl, b33⟩
        have Rx := bx3_0 b33
        have Ry := bx3_1 b33
        have Rr := bx3_2 b33
        have B := Lib.hid (bstep (ba3 _ _ _ _) b33)
        have sb33 := b33.size
        try simp at sb33
        have Yx0 := Rx.cell 0 rfl
        have Yx1 := Rx.cell 1 rfl
        have Yx2 := Rx.cell 2 rfl
        have Lx := Rx.lt
        have Yy0 := Ry.cell 0 rfl
        have Yy1 := Ry.cell 1 rfl
        have Yy2 := Ry.cell 2 rfl
        have Ly := Ry.lt
        have Yr0 := Rr.cell 0 rfl
        have Yr1 := Rr.cell 1 rfl
        have Yr2 := Rr.cell 2 rfl
        have Lr := Rr.lt
        have Fr0 := Rr.frozen 0
        have Fr1 := Rr.frozen 1
        have Fr2 := Rr.frozen 2
        clear b33
        go_wp2_with fail
        refine (specRatOk_any m a2 ca2 ys b2 cb2 es _ (HA2.out.below B.out) hn2 (HB2.out.below B.out) hm2).mono ?_
        rintro e W34 ⟨rfl, b34⟩
        clear Yx0 Yx1 Yx2 Lx Yy0 Yy1 Yy2 Ly Yr0 Yr1 Yr2 Lr Fr0 Fr1 Fr2
        have Rx := box_step Rx b34
        have Ry := box_step Ry b34
        have Rr := box_step Rr b34
        have B := Lib.hid (bstep B.out b34)
        have sb34 := b34.size
        have Yx0 := Rx.cell 0 rfl
        have Yx1 := Rx.cell 1 rfl
        have Yx2 := Rx.cell 2 rfl
        have Lx := Rx.lt
        have Yy0 := Ry.cell 0 rfl
        have Yy1 := Ry.cell 1 rfl
        have Yy2 := Ry.cell 2 rfl
        have Ly := Ry.lt
        have Yr0 := Rr.cell 0 rfl
        have Yr1 := Rr.cell 1 rfl
        have Yr2 := Rr.cell 2 rfl
        have Lr := Rr.lt
        have Fr0 := Rr.frozen 0
        have Fr1 := Rr.frozen 1
        have Fr2 := Rr.frozen 2
        clear b34
        go_wp2_with fail
        refine (l04Cmp_any n a ca xs b cb ds m a2 ca2 ys b2 cb2 es _ (HA.out.below B.out) hn (HB.out.below B.out) hm (HA2.out.below B.out) hn2 (HB2.out.below B.out) hm2 h1 h2).mono ?_
        rintro e W35 ⟨rfl, b35⟩
        clear Yx0 Yx1 Yx2 Lx Yy0 Yy1 Yy2 Ly Yr0 Yr1 Yr2 Lr Fr0 Fr1 Fr2
        have Rx := box_step Rx b35
        have Ry := box_step Ry b35
        have Rr := box_step Rr b35
        have B := Lib.hid (bstep B.out b35)
        have sb35 := b35.size
        have Yx0 := Rx.cell 0 rfl
        have Yx1 := Rx.cell 1 rfl
        have Yx2 := Rx.cell 2 rfl
        have Lx := Rx.lt
        have Yy0 := Ry.cell 0 rfl
        have Yy1 := Ry.cell 1 rfl
        have Yy2 := Ry.cell 2 rfl
        have Ly := Ry.lt
        have Yr0 := Rr.cell 0 rfl
        have Yr1 := Rr.cell 1 rfl
        have Yr2 := Rr.cell 2 rfl
        have Lr := Rr.lt
        have Fr0 := Rr.frozen 0
        have Fr1 := Rr.frozen 1
        have Fr2 := Rr.frozen 2
        clear b35
        go_wp2_with fail
        refine (l04Copy_own m a2 ca2 ys b2 cb2 es _ (HA2.out.below B.out) hn2 (HB2.out.below B.out) hm2 k3 k4).mono ?_
        rintro e W36 ⟨p, c, p2, c2, rfl, hO, b36⟩
        clear Yx0 Yx1 Yx2 Lx Yy0 Yy1 Yy2 Ly Yr0 Yr1 Yr2 Lr Fr0 Fr1 Fr2
        have Rx := box_step Rx b36
        have Ry := box_step Ry b36
        have Rr := box_step Rr b36
        have B := Lib.hid (bstep B.out b36)
        have sb36 := b36.size
        have O := Lib.hid hO
        clear hO
        have Yx0 := Rx.cell 0 rfl
        have Yx1 := Rx.cell 1 rfl
        have Yx2 := Rx.cell 2 rfl
        have Lx := Rx.lt
        have Yy0 := Ry.cell 0 rfl
        have Yy1 := Ry.cell 1 rfl
        have Yy2 := Ry.cell 2 rfl
        have Ly := Ry.lt
        have Yr0 := Rr.cell 0 rfl
        have Yr1 := Rr.cell 1 rfl
        have Yr2 := Rr.cell 2 rfl
        have Lr := Rr.lt
        have Fr0 := Rr.frozen 0
        have Fr1 := Rr.frozen 1
        have Fr2 := Rr.frozen 2
        clear b36
        go_wp2
        refine bodyPost_ret (v := .agg #[.bool m, .slice p ys.length c, .slice p2 es.length c2]) (by simp [results, Try.results66, go_sem, Yr0, Yr1, Yr2, Lr]) rfl ⟨p, c, p2, c2, rfl, ratF_end (by first | omega | (simp; done) | (simp; omega)) (by first | omega | (simp; done) | (simp; omega)) O.out B.out _ _ _⟩
    · have h2' := Bool.eq_false_iff.2 h2
      rw [ratMinP_no2 h2']
      go_enter Try.func66, Try.ntmps66
      go_wp2_with fail
      refine (specRatOk_any n a ca xs b cb ds _ (HA.out.below (ba3 _ _ _ _)) hn (HB.out.below (ba3 _ _ _ _)) hm).mono ?_
      rintro e W37 ⟨rfl, b37⟩
      have Rx := bx3_0 b37
      have Ry := bx3_1 b37
      have Rr := bx3_2 b37
      have B := Lib.hid (bstep (ba3 _ _ _ _) b37)
      have sb37 := b37.size
      try simp at sb37
      have Yx0 := Rx.cell 0 rfl
      have Yx1 := Rx.cell 1 rfl
      have Yx2 := Rx.cell 2 rfl
      have Lx := Rx.lt
      have Yy0 := Ry.cell 0 rfl
      have Yy1 := Ry.cell 1 rfl
      have Yy2 := Ry.cell 2 rfl
      have Ly := Ry.lt
      have Yr0 := Rr.cell 0 rfl
      have Yr1 := Rr.cell 1 rfl
      have Yr2 := Rr.cell 2 rfl
      have Lr := Rr.lt
      have Fr0 := Rr.frozen 0
      have Fr1 := Rr.frozen 1
      have Fr2 := Rr.frozen 2
      clear b37
      go_wp2_with fail
      refine (specRatOk_any m a2 ca2 ys b2 cb2 es _ (HA2.out.below B.out) hn2 (HB2.out.below B.out) hm2).mono ?_
      rintro e W38 ⟨rfl, b38⟩
      clear Yx0 Yx1 Yx2 Lx Yy0 Yy1 Yy2 Ly Yr0 Yr1 Yr2 Lr Fr0 Fr1 Fr2
      have Rx := box_step Rx b38
      have Ry := box_step Ry b38
      have Rr := box_step Rr b38
      have B := Lib.hid (bstep B.out b38)
      have sb38 := b38.size
      have Yx0 := Rx.cell 0 rfl
      have Yx1 := Rx.cell 1 rfl
      have Yx2 := Rx.cell 2 rfl
      have Lx := Rx.lt
      have Yy0 := Ry.cell 0 rfl
      have Yy1 := Ry.cell 1 rfl
      have Yy2 := Ry.cell 2 rfl
      have Ly := Ry.lt
      have Yr0 := Rr.cell 0 rfl
      have Yr1 := Rr.cell 1 rfl
      have Yr2 := Rr.cell 2 rfl
      have Lr := Rr.lt
      have Fr0 := Rr.frozen 0
      have Fr1 := Rr.frozen 1
      have Fr2 := Rr.frozen 2
      clear b38
      go_wp2
      refine bodyPost_ret (v := .agg #[.bool false, .slice none 0 0, .slice none 0 0]) (by simp [results, Try.results66, go_sem, Yr0, Yr1, Yr2, Lr]) rfl ⟨none, 0, none, 0, rfl, ratzF_end (by first | omega | (simp; done) | (simp; omega)) B.out _ _ _⟩
  · have h1' := Bool.eq_false_iff.2 h1
    rw [ratMinP_no1 h1']
    go_enter Try.func66, Try.ntmps66
    go_wp2_with fail
    refine (specRatOk_any n a ca xs b cb ds _ (HA.out.below (ba3 _ _ _ _)) hn (HB.out.below (ba3 _ _ _ _)) hm).mono ?_
    rintro e W39 ⟨rfl, b39⟩
    have Rx := bx3_0 b39
    have Ry := bx3_1 b39
    have Rr := bx3_2 b39
    have B := Lib.hid (bstep (ba3 _ _ _ _) b39)
    have sb39 := b39.size
    try simp at sb39
    have Yx0 := Rx.cell 0 rfl
    have Yx1 := Rx.cell 1 rfl
    have Yx2 := Rx.cell 2 rfl
    have Lx := Rx.lt
    have Yy0 := Ry.cell 0 rfl
    have Yy1 := Ry.cell 1 rfl
    have Yy2 := Ry.cell 2 rfl
    have Ly := Ry.lt
    have Yr0 := Rr.cell 0 rfl
    have Yr1 := Rr.cell 1 rfl
    have Yr2 := Rr.cell 2 rfl
    have Lr := Rr.lt
    have Fr0 := Rr.frozen 0
    have Fr1 := Rr.frozen 1
    have Fr2 := Rr.frozen 2
    clear b39
    go_wp2
    refine bodyPost_ret (v := .agg #[.bool false, .slice none 0 0, .slice none 0 0]) (by simp [results, Try.results66, go_sem, Yr0, Yr1, Yr2, Lr]) rfl ⟨none, 0, none, 0, rfl, ratzF_end (by first | omega | (simp; done) | (simp; omega)) B.out _ _ _⟩

include ha hn hb hm ha2 hn2 hb2 hm2 in
theorem specRatMin_any : Calls Try.prog 66 #[.agg #[.bool n, .slice a xs.length ca, .slice b ds.length cb], .agg #[.bool m, .slice a2 ys.length ca2, .slice b2 es.length cb2]] w fun e w' => ∃ p c p2 c2, e = .returned (.agg #[.bool (ratMinP n xs ds m ys es).neg, .slice p (ratMinP n xs ds m ys es).num.length c, .slice p2 (ratMinP n xs ds m ys es).den.length c2]) ∧ IntsAt w' p c (ratMinP n xs ds m ys es).num ∧ IntsAt w' p2 c2 (ratMinP n xs ds m ys es).den ∧ Below w.heap.size w w' :=
  (specRatMin_own n a ca xs b cb ds m a2 ca2 ys b2 cb2 es w ha hn hb hm ha2 hn2 hb2 hm2).mono fun _ _ ⟨p, c, p2, c2, h1, h2, h3⟩ => ⟨p, c, p2, c2, h1, h2.i1, h2.i2, h3⟩

set_option maxHeartbeats 4000000 in
include ha hn hb hm ha2 hn2 hb2 hm2 in
theorem specRatMax_own : Calls Try.prog 64 #[.agg #[.bool n, .slice a xs.length ca, .slice b ds.length cb], .agg #[.bool m, .slice a2 ys.length ca2, .slice b2 es.length cb2]] w (RatRetS w (ratMaxP n xs ds m ys es)) := by
  have HA := Lib.hid ha
  have HB := Lib.hid hb
  have HA2 := Lib.hid ha2
  have HB2 := Lib.hid hb2
  clear ha hb ha2 hb2
  by_cases h1 : ratOkB n xs ds = true
  · by_cases h2 : ratOkB m ys es = true
    · skip
      have k1 := rok_lx h1
      have k2 := rok_ld h1
      have k3 := rok_lx h2
      have k4 := rok_ld h2
      by_cases h3 : 0 ≤ ratCmpV n xs ds m ys es
      · have h3' : decide (0 ≤ ratCmpV n xs ds m ys es) = true := decide_eq_true h3
        rw [ratMaxP_le h1 h2 h3]
        go_enter Try.func64, Try.ntmps64
        go_wp2_with fail
        refine (specRatOk_any n a ca xs b cb ds _ (HA.out.below (ba3 _ _ _ _)) hn (HB.out.below (ba3 _ _ _ _)) hm).mono ?_
        rintro e W40 ⟨rfl, b40⟩
        have Rx := bx3_0 b40
        have Ry := bx3_1 b40
        have Rr := bx3_2 b40
        have B := Lib.hid (bstep (ba3 _ _ _ _) b40)
        have sb40 := b40.size
        try simp at sb40
        have Yx0 := Rx.cell 0 rfl
        have Yx1 := Rx.cell 1 rfl
        have Yx2 := Rx.cell 2 rfl
        have Lx := Rx.lt
        have Yy0 := Ry.cell 0 rfl
        have Yy1 := Ry.cell 1 rfl
        have Yy2 := Ry.cell 2 rfl
        have Ly := Ry.lt
        have Yr0 := Rr.cell 0 rfl
        have Yr1 := Rr.cell 1 rfl
        have Yr2 := Rr.cell 2 rfl
        have Lr := Rr.lt
        have Fr0 := Rr.frozen 0
        have Fr1 := Rr.frozen 1
        have Fr2 := Rr.frozen 2
        clear b40
        go_wp2_with fail
        refine (specRatOk_any m a2 ca2 ys b2 cb2 es _ (HA2.out.below B.out) hn2 (HB2.out.below B.out) hm2).mono ?_
        rintro e W41 ⟨rfl, b41⟩
        clear Yx0 Yx1 Yx2 Lx Yy0 Yy1 Yy2 Ly Yr0 Yr1 Yr2 Lr Fr0 Fr1 Fr2
        have Rx := box_step Rx b41
        have Ry := box_step Ry b41
        have Rr := box_step Rr b41
        have B := Lib.hid (bstep B.out b41)
        have sb41 := b41.size
        have Yx0 := Rx.cell 0 rfl
        have Yx1 := Rx.cell 1 rfl
        have Yx2 := Rx.cell 2 rfl
        have Lx := Rx.lt
        have Yy0 := Ry.cell 0 rfl
        have Yy1 := Ry.cell 1 rfl
        have Yy2 := Ry.cell 2 rfl
        have Ly := Ry.lt
        have Yr0 := Rr.cell 0 rfl
        have Yr1 := Rr.cell 1 rfl
        have Yr2 := Rr.cell 2 rfl
        have Lr := Rr.lt
        have Fr0 := Rr.frozen 0
        have Fr1 := Rr.frozen 1
        have Fr2 := Rr.frozen 2
        clear b41
        go_wp2_with fail
        refine (l04Cmp_any n a ca xs b cb ds m a2 ca2 ys b2 cb2 es _ (HA.out.below B.out) hn (HB.out.below B.out) hm (HA2.out.below B.out) hn2 (HB2.out.below B.out) hm2 h1 h2).mono ?_
        rintro e W42 ⟨rfl, b42⟩
        clear Yx0 Yx1 Yx2 Lx Yy0 Yy1 Yy2 Ly Yr0 Yr1 Yr2 Lr Fr0 Fr1 Fr2
        have Rx := box_step Rx b42
        have Ry := box_step Ry b42
        have Rr := box_step Rr b42
        have B := Lib.hid (bstep B.out b42)
        have sb42 := b42.size
        have Yx0 := Rx.cell 0 rfl
        have Yx1 := Rx.cell 1 rfl
        have Yx2 := Rx.cell 2 rfl
        have Lx := Rx.lt
        have Yy0 := Ry.cell 0 rfl
        have Yy1 := Ry.cell 1 rfl
        have Yy2 := Ry.cell 2 rfl
        have Ly := Ry.lt
        have Yr0 := Rr.cell 0 rfl
        have Yr1 := Rr.cell 1 rfl
        have Yr2 := Rr.cell 2 rfl
        have Lr := Rr.lt
        have Fr0 := Rr.frozen 0
        have Fr1 := Rr.frozen 1
        have Fr2 := Rr.frozen 2
        clear b42
        go_wp2_with fail
        refine (l04Copy_own n a ca xs b cb ds _ (HA.out.below B.out) hn (HB.out.below B.out) hm k1 k2).mono ?_
        rintro e W43 ⟨p, c, p2, c2, rfl, hO, b43⟩
        clear Yx0 Yx1 Yx2 Lx Yy0 Yy1 Yy2 Ly Yr0 Yr1 Yr2 Lr Fr0 Fr1 Fr2
        have Rx := box_step Rx b43
        have Ry := box_step Ry b43
        have Rr := box_step Rr b43
        have B := Lib.hid (bstep B.out b43)
        have sb43 := b43.size
        have O := Lib.hid hO
        clear hO
        have Yx0 := Rx.cell 0 rfl
        have Yx1 := Rx.cell 1 rfl
        have Yx2 := Rx.cell 2 rfl
        have Lx := Rx.lt
        have Yy0 := Ry.cell 0 rfl
        have Yy1 := Ry.cell 1 rfl
        have Yy2 := Ry.cell 2 rfl
        have Ly := Ry.lt
        have Yr0 := Rr.cell 0 rfl
        have Yr1 := Rr.cell 1 rfl
        have Yr2 := Rr.cell 2 rfl
        have Lr := Rr.lt
        have Fr0 := Rr.frozen 0
        have Fr1 := Rr.frozen 1
        have Fr2 := Rr.frozen 2
        clear b43
        go_wp2
        refine bodyPost_ret (v := .agg #[.bool n, .slice p xs.length c, .slice p2 ds.length c2]) (by simp [results, Try.results64, go_sem, Yr0, Yr1, Yr2, Lr]) rfl ⟨p, c, p2, c2, rfl, ratF_end (by first | omega | (simp; done) | (simp; omega)) (by first | omega | (simp; done) | (simp; omega)) O.out B.out _ _ _⟩
      · have h3' : decide (0 ≤ ratCmpV n xs ds m ys es) = false := decide_eq_false h3
        rw [ratMaxP_gt h1 h2 h3]
        go_enter Try.func64, Try.ntmps64
        go_wp2_with fail
        refine (specRatOk_any n a ca xs b cb ds _ (HA.out.below (ba3 _ _ _ _)) hn (HB.out.below (ba3 _ _ _ _)) hm).mono ?_
        rintro e W44 ⟨rfl, b44⟩
        have Rx := bx3_0 b44
        have Ry := bx3_1 b44
        have Rr := bx3_2 b44
        have B := Lib.hid (bstep (ba3 _ _ _ _) b44)
        have sb44 := b44.size
        try simp at sb44
        have Yx0 := Rx.cell 0 rfl
        have Yx1 := Rx.cell 1 rfl
        have Yx2 := Rx.cell 2 rfl
        have Lx := Rx.lt
        have Yy0 := Ry.cell 0 rfl
        have Yy1 := Ry.cell 1 rfl
        have Yy2 := Ry.cell 2 rfl
        have Ly := Ry.lt
        have Yr0 := Rr.cell 0 rfl
        have Yr1 := Rr.cell 1 rfl
        have Yr2 := Rr.cell 2 rfl
        have Lr := Rr.lt
        have Fr0 := Rr.frozen 0
        have Fr1 := Rr.frozen 1
        have Fr2 := Rr.frozen 2
        clear b44
        go_wp2_with fail
        refine (specRatOk_any m a2 ca2 ys b2 cb2 es _ (HA2.out.below B.out) hn2 (HB2.out.below B.out) hm2).mono ?_
        rintro e W45 ⟨rfl, b45⟩
        clear Yx0 Yx1 Yx2 Lx Yy0 Yy1 Yy2 Ly Yr0 Yr1 Yr2 Lr Fr0 Fr1 Fr2
        have Rx := box_step Rx b45
        have Ry := box_step Ry b45
        have Rr := box_step Rr b45
        have B := Lib.hid (bstep B.out b45)
        have sb45 := b45.size
        have Yx0 := Rx.cell 0 rfl
        have Yx1 := Rx.cell 1 rfl
        have Yx2 := Rx.cell 2 rfl
        have Lx := Rx.lt
        have Yy0 := Ry.cell 0 rfl
        have Yy1 := Ry.cell 1 rfl
        have Yy2 := Ry.cell 2 rfl
        have Ly := Ry.lt
        have Yr0 := Rr.cell 0 rfl
        have Yr1 := Rr.cell 1 rfl
        have Yr2 := Rr.cell 2 rfl
        have Lr := Rr.lt
        have Fr0 := Rr.frozen 0
        have Fr1 := Rr.frozen 1
        have Fr2 := Rr.frozen 2
        clear b45
        go_wp2_with fail
        refine (l04Cmp_any n a ca xs b cb ds m a2 ca2 ys b2 cb2 es _ (HA.out.below B.out) hn (HB.out.below B.out) hm (HA2.out.below B.out) hn2 (HB2.out.below B.out) hm2 h1 h2).mono ?_
        rintro e W46 ⟨rfl, b46⟩
        clear Yx0 Yx1 Yx2 Lx Yy0 Yy1 Yy2 Ly Yr0 Yr1 Yr2 Lr Fr0 Fr1 Fr2
        have Rx := box_step Rx b46
        have Ry := box_step Ry b46
        have Rr := box_step Rr b46
        have B := Lib.hid (bstep B.out b46)
        have sb46 := b46.size
        have Yx0 := Rx.cell 0 rfl
        have Yx1 := Rx.cell 1 rfl
        have Yx2 := Rx.cell 2 rfl
        have Lx := Rx.lt
        have Yy0 := Ry.cell 0 rfl
        have Yy1 := Ry.cell 1 rfl
        have Yy2 := Ry.cell 2 rfl
        have Ly := Ry.lt
        have Yr0 := Rr.cell 0 rfl
        have Yr1 := Rr.cell 1 rfl
        have Yr2 := Rr.cell 2 rfl
        have Lr := Rr.lt
        have Fr0 := Rr.frozen 0
        have Fr1 := Rr.frozen 1
        have Fr2 := Rr.frozen 2
        clear b46
        go_wp2_with fail
        refine (l04Copy_own m a2 ca2 ys b2 cb2 es _ (HA2.out.below B.out) hn2 (HB2.out.below B.out) hm2 k3 k4).mono ?_
        rintro e W47 ⟨p, c, p2, c2, rfl, hO, b47⟩
        clear Yx0 Yx1 Yx2 Lx Yy0 Yy1 Yy2 Ly Yr0 Yr1 Yr2 Lr Fr0 Fr1 Fr2
        have Rx := box_step Rx b47
        have Ry := box_step Ry b47
        have Rr := box_step Rr b47
        have B := Lib.hid (bstep B.out b47)
        have sb47 := b47.size
        have O := Lib.hid hO
        clear hO
        have Yx0 := Rx.cell 0 rfl
        have Yx1 := Rx.cell 1 rfl
        have Yx2 := Rx.cell 2 rfl
        have Lx := Rx.lt
        have Yy0 := Ry.cell 0 rfl
        have Yy1 := Ry.cell 1 rfl
        have Yy2 := Ry.cell 2 rfl
        have Ly := Ry.lt
        have Yr0 := Rr.cell 0 rfl
        have Yr1 := Rr.cell 1 rfl
        have Yr2 := Rr.cell 2 rfl
        have Lr := Rr.lt
        have Fr0 := Rr.frozen 0
        have Fr1 := Rr.frozen 1
        have Fr2 := Rr.frozen 2
        clear b47
        go_wp2
        refine bodyPost_ret (v := .agg #[.bool m, .slice p ys.length c, .slice p2 es.length c2]) (by simp [results, Try.results64, go_sem, Yr0, Yr1, Yr2, Lr]) rfl ⟨p, c, p2, c2, rfl, ratF_end (by first | omega | (simp; done) | (simp; omega)) (by first | omega | (simp; done) | (simp; omega)) O.out B.out _ _ _⟩
    · have h2' := Bool.eq_false_iff.2 h2
      rw [ratMaxP_no2 h2']
      go_enter Try.func64, Try.ntmps64
      go_wp2_with fail
      refine (specRatOk_any n a ca xs b cb ds _ (HA.out.below (ba3 _ _ _ _)) hn (HB.out.below (ba3 _ _ _ _)) hm).mono ?_
      rintro e W48 ⟨rfl, b48⟩
      have Rx := bx3_0 b48
      have Ry := bx3_1 b48
      have Rr := bx3_2 b48
      have B := Lib.hid (bstep (ba3 _ _ _ _) b48)
      have sb48 := b48.size
      try simp at sb48
      have Yx0 := Rx.cell 0 rfl
      have Yx1 := Rx.cell 1 rfl
      have Yx2 := Rx.cell 2 rfl
      have Lx := Rx.lt
      have Yy0 := Ry.cell 0 rfl
      have Yy1 := Ry.cell 1 rfl
      have Yy2 := Ry.cell 2 rfl
      have Ly := Ry.lt
      have Yr0 := Rr.cell 0 rfl
      have Yr1 := Rr.cell 1 rfl
      have Yr2 := Rr.cell 2 rfl
      have Lr := Rr.lt
      have Fr0 := Rr.frozen 0
      have Fr1 := Rr.frozen 1
      have Fr2 := Rr.frozen 2
      clear b48
      go_wp2_with fail
      refine (specRatOk_any m a2 ca2 ys b2 cb2 es _ (HA2.out.below B.out) hn2 (HB2.out.below B.out) hm2).mono ?_
      rintro e W49 ⟨rfl, b49⟩
      clear Yx0 Yx1 Yx2 Lx Yy0 Yy1 Yy2 Ly Yr0 Yr1 Yr2 Lr Fr0 Fr1 Fr2
      have Rx := box_step Rx b49
      have Ry := box_step Ry b49
      have Rr := box_step Rr b49
      have B := Lib.hid (bstep B.out b49)
      have sb49 := b49.size
      have Yx0 := Rx.cell 0 rfl
      have Yx1 := Rx.cell 1 rfl
      have Yx2 := Rx.cell 2 rfl
      have Lx := Rx.lt
      have Yy0 := Ry.cell 0 rfl
      have Yy1 := Ry.cell 1 rfl
      have Yy2 := Ry.cell 2 rfl
      have Ly := Ry.lt
      have Yr0 := Rr.cell 0 rfl
      have Yr1 := Rr.cell 1 rfl
      have Yr2 := Rr.cell 2 rfl
      have Lr := Rr.lt
      have Fr0 := Rr.frozen 0
      have Fr1 := Rr.frozen 1
      have Fr2 := Rr.frozen 2
      clear b49
      go_wp2
      refine bodyPost_ret (v := .agg #[.bool false, .slice none 0 0, .slice none 0 0]) (by simp [results, Try.results64, go_sem, Yr0, Yr1, Yr2, Lr]) rfl ⟨none, 0, none, 0, rfl, ratzF_end (by first | omega | (simp; done) | (simp; omega)) B.out _ _ _⟩
  · have h1' := Bool.eq_false_iff.2 h1
    rw [ratMaxP_no1 h1']
    go_enter Try.func64, Try.ntmps64
    go_wp2_with fail
    refine (specRatOk_any n a ca xs b cb ds _ (HA.out.below (ba3 _ _ _ _)) hn (HB.out.below (ba3 _ _ _ _)) hm).mono ?_
    rintro e W50 ⟨rfl, b50⟩
    have Rx := bx3_0 b50
    have Ry := bx3_1 b50
    have Rr := bx3_2 b50
    have B := Lib.hid (bstep (ba3 _ _ _ _) b50)
    have sb50 := b50.size
    try simp at sb50
    have Yx0 := Rx.cell 0 rfl
    have Yx1 := Rx.cell 1 rfl
    have Yx2 := Rx.cell 2 rfl
    have Lx := Rx.lt
    have Yy0 := Ry.cell 0 rfl
    have Yy1 := Ry.cell 1 rfl
    have Yy2 := Ry.cell 2 rfl
    have Ly := Ry.lt
    have Yr0 := Rr.cell 0 rfl
    have Yr1 := Rr.cell 1 rfl
    have Yr2 := Rr.cell 2 rfl
    have Lr := Rr.lt
    have Fr0 := Rr.frozen 0
    have Fr1 := Rr.frozen 1
    have Fr2 := Rr.frozen 2
    clear b50
    go_wp2
    refine bodyPost_ret (v := .agg #[.bool false, .slice none 0 0, .slice none 0 0]) (by simp [results, Try.results64, go_sem, Yr0, Yr1, Yr2, Lr]) rfl ⟨none, 0, none, 0, rfl, ratzF_end (by first | omega | (simp; done) | (simp; omega)) B.out _ _ _⟩

include ha hn hb hm ha2 hn2 hb2 hm2 in
theorem specRatMax_any : Calls Try.prog 64 #[.agg #[.bool n, .slice a xs.length ca, .slice b ds.length cb], .agg #[.bool m, .slice a2 ys.length ca2, .slice b2 es.length cb2]] w fun e w' => ∃ p c p2 c2, e = .returned (.agg #[.bool (ratMaxP n xs ds m ys es).neg, .slice p (ratMaxP n xs ds m ys es).num.length c, .slice p2 (ratMaxP n xs ds m ys es).den.length c2]) ∧ IntsAt w' p c (ratMaxP n xs ds m ys es).num ∧ IntsAt w' p2 c2 (ratMaxP n xs ds m ys es).den ∧ Below w.heap.size w w' :=
  (specRatMax_own n a ca xs b cb ds m a2 ca2 ys b2 cb2 es w ha hn hb hm ha2 hn2 hb2 hm2).mono fun _ _ ⟨p, c, p2, c2, h1, h2, h3⟩ => ⟨p, c, p2, c2, h1, h2.i1, h2.i2, h3⟩

end
end Go.Proofs.Ytlpnhcoaidmiiaa
