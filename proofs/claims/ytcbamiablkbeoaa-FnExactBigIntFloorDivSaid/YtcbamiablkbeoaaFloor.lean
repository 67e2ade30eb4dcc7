/- BigIntFloorDiv whole. -/
import Derived.Test.YtcbamiablkbeoaaFloorW
import Derived.Test.YtcbamiablkbeoaaNatDiv
namespace Go.Proofs.Ytcbamiablkbeoaa
set_option linter.unusedVariables false
set_option linter.unusedSimpArgs false
open Go.RowKit
section
variable (n : Bool) (a : Option Addr) (ca : Nat) (xs : List Int) (b : Option Addr) (cb : Nat) (ms : List Int) (w : World) (ha : IntsAt w a ca xs) (hn : xs.length ≤ 1048576) (hb : IntsAt w b cb ms) (hm : ms.length ≤ 1048576)
include ha hn hb hm
set_option maxHeartbeats 4000000 in
theorem specBigIntFloorDiv_any : Calls Try.prog 52 #[.agg #[.bool n, .slice a xs.length ca], .slice b ms.length cb] w fun e w' => ∃ p c p2 c2, e = .returned (.tuple #[.agg #[.bool (fdQ n xs ms).neg, .slice p (fdQ n xs ms).mag.length c], .slice p2 (fdR n xs ms).length c2]) ∧
    IntsAt w' p c (fdQ n xs ms).mag ∧ IntsAt w' p2 c2 (fdR n xs ms) ∧ Below w.heap.size w w' := by
  have HA := Lib.hid ha
  have HB := Lib.hid hb
  clear ha hb
  by_cases h1 : bigOkB n xs = true
  · by_cases h2 : natOkB ms = true
    · by_cases h3 : 0 < ms.length
      · have hfd : fdB n xs ms = true := by unfold fdB; rw [h1, h2, decide_eq_true h3]; rfl
        have HL := Lib.hid (ok_len (bigOk_nat h1))
        have HM := Lib.hid (ok_len h2)
        have HX := Lib.hid (ok_digs (bigOk_nat h1))
        have HY := Lib.hid (ok_digs h2)
        have h0 : 0 < val ms := by have := HY.out; rw [← this, digs_len_pos] at h3; exact h3
        have HD := Lib.hid (div_bounds (ys := ms) (ok_rng (bigOk_nat h1)) (ok_len (bigOk_nat h1)))
        have hz : ((ms.length : Int) == 0) = false := beq_eq_false_iff_ne.2 (by omega)
        by_cases hup : fdUp n xs ms = true
        · have hup' := hup
          unfold fdUp at hup'
          simp only [Bool.and_eq_true, decide_eq_true_eq] at hup'
          obtain ⟨hn1, hr⟩ := hup'
          subst hn1
          have hfit := fd_fit (bigOk_nat h1) hr h0
          rw [(fd_up hfd hup).1, (fd_up hfd hup).2]
          have HH := specFloor_up a ca xs b cb ms w HA.out hn HB.out hm h1 h2 hz (val xs / val ms) (val xs % val ms) (val ms) (fun W hu hv => l02Div_any a ca xs b cb ms W hu hv (by have := HL.out; omega) (by have := HM.out; omega) HX.out HY.out h0) (digs_len_pos.2 hr) (by have := HD.out.1; have := HL.out; omega) rfl HY.out (Nat.mod_lt _ h0) hfit
          rw [show capD (val xs / val ms + 1) = digs (val xs / val ms + 1) from if_pos hfit] at HH
          exact HH
        · have hup' := Bool.eq_false_iff.2 hup
          have hq6 : (digs (val xs / val ms)).length ≤ 60 := by have := HD.out.1; have := HL.out; omega
          have hno : n = false ∨ val xs % val ms = 0 := by
            unfold fdUp at hup'
            cases n
            · exact .inl rfl
            · right; simpa using hup'
          rw [(fd_down hfd hup').1, (fd_down hfd hup').2]
          have HH := specFloor_down n a ca xs b cb ms w HA.out hn HB.out hm h1 h2 hz (val xs / val ms) (val xs % val ms) (fun W hu hv => l02Div_any a ca xs b cb ms W hu hv (by have := HL.out; omega) (by have := HM.out; omega) HX.out HY.out h0) hno (by omega)
          rw [show capD (val xs / val ms) = digs (val xs / val ms) from if_pos hq6] at HH
          exact HH
      · have hfd : fdB n xs ms = false := by unfold fdB; rw [decide_eq_false h3]; simp
        have hz : ((ms.length : Int) == 0) = true := beq_iff_eq.2 (by omega)
        rw [(fd_no hfd).1, (fd_no hfd).2]
        dsimp only [List.length_nil]
        clear hfd
        go_enter Try.func52, Try.ntmps52
        go_wp2_with fail
        refine (specBigIntOk_any n a ca xs _ (HA.out.below (ba2 _ _ _)) hn).mono ?_
        rintro e W1 ⟨rfl, b1⟩
        have Rx := bx2_0 b1
        have Rr := bx2_1 b1
        have B := Lib.hid (bstep (ba2 _ _ _) b1)
        have sb1 := b1.size
        try simp at sb1
        have Yx0 := Rx.cell 0 rfl
        have Yx1 := Rx.cell 1 rfl
        have Lx := Rx.lt
        have Yr0 := Rr.cell 0 rfl
        have Yr1 := Rr.cell 1 rfl
        have Lr := Rr.lt
        have Fr0 := Rr.frozen 0
        have Fr1 := Rr.frozen 1
        clear b1
        go_wp2_with fail
        refine (specNatOk_b b cb ms _ (HB.out.below B.out) hm).mono ?_
        rintro e W2 ⟨rfl, b2⟩
        clear Yx0 Yx1 Lx Yr0 Yr1 Lr Fr0 Fr1
        have Rx := box_step Rx b2
        have Rr := box_step Rr b2
        have B := Lib.hid (bstep B.out b2)
        have sb2 := b2.size
        have Yx0 := Rx.cell 0 rfl
        have Yx1 := Rx.cell 1 rfl
        have Lx := Rx.lt
        have Yr0 := Rr.cell 0 rfl
        have Yr1 := Rr.cell 1 rfl
        have Lr := Rr.lt
        have Fr0 := Rr.frozen 0
        have Fr1 := Rr.frozen 1
        clear b2
        go_wp2
        refine bodyPost_ret (v := .tuple #[.agg #[.bool false, .slice none 0 0], .slice none 0 0]) (by simp [results, Try.results52, go_sem, Yr0, Yr1, Lr]) rfl ⟨none, 0, none, 0, rfl, IntsAt.nil _, IntsAt.nil _, below_put (below_put B.out (by first | omega | (simp; done) | (simp; omega))) (by first | omega | (simp; done) | (simp; omega))⟩
    · have h2' := Bool.eq_false_iff.2 h2
      have hfd : fdB n xs ms = false := by unfold fdB; rw [h2']; simp
      rw [(fd_no hfd).1, (fd_no hfd).2]
      dsimp only [List.length_nil]
      clear hfd
      go_enter Try.func52, Try.ntmps52
      go_wp2_with fail
      refine (specBigIntOk_any n a ca xs _ (HA.out.below (ba2 _ _ _)) hn).mono ?_
      rintro e W3 ⟨rfl, b3⟩
      have Rx := bx2_0 b3
      have Rr := bx2_1 b3
      have B := Lib.hid (bstep (ba2 _ _ _) b3)
      have sb3 := b3.size
      try simp at sb3
      have Yx0 := Rx.cell 0 rfl
      have Yx1 := Rx.cell 1 rfl
      have Lx := Rx.lt
      have Yr0 := Rr.cell 0 rfl
      have Yr1 := Rr.cell 1 rfl
      have Lr := Rr.lt
      have Fr0 := Rr.frozen 0
      have Fr1 := Rr.frozen 1
      clear b3
      go_wp2_with fail
      refine (specNatOk_b b cb ms _ (HB.out.below B.out) hm).mono ?_
      rintro e W4 ⟨rfl, b4⟩
      clear Yx0 Yx1 Lx Yr0 Yr1 Lr Fr0 Fr1
      have Rx := box_step Rx b4
      have Rr := box_step Rr b4
      have B := Lib.hid (bstep B.out b4)
      have sb4 := b4.size
      have Yx0 := Rx.cell 0 rfl
      have Yx1 := Rx.cell 1 rfl
      have Lx := Rx.lt
      have Yr0 := Rr.cell 0 rfl
      have Yr1 := Rr.cell 1 rfl
      have Lr := Rr.lt
      have Fr0 := Rr.frozen 0
      have Fr1 := Rr.frozen 1
      clear b4
      go_wp2
      refine bodyPost_ret (v := .tuple #[.agg #[.bool false, .slice none 0 0], .slice none 0 0]) (by simp [results, Try.results52, go_sem, Yr0, Yr1, Lr]) rfl ⟨none, 0, none, 0, rfl, IntsAt.nil _, IntsAt.nil _, below_put (below_put B.out (by first | omega | (simp; done) | (simp; omega))) (by first | omega | (simp; done) | (simp; omega))⟩
  · have h1' := Bool.eq_false_iff.2 h1
    have hfd : fdB n xs ms = false := by unfold fdB; rw [h1']; rfl
    rw [(fd_no hfd).1, (fd_no hfd).2]
    dsimp only [List.length_nil]
    clear hfd
    go_enter Try.func52, Try.ntmps52
    go_wp2_with fail
    refine (specBigIntOk_any n a ca xs _ (HA.out.below (ba2 _ _ _)) hn).mono ?_
    rintro e W5 ⟨rfl, b5⟩
    have Rx := bx2_0 b5
    have Rr := bx2_1 b5
    have B := Lib.hid (bstep (ba2 _ _ _) b5)
    have sb5 := b5.size
    try simp at sb5
    have Yx0 := Rx.cell 0 rfl
    have Yx1 := Rx.cell 1 rfl
    have Lx := Rx.lt
    have Yr0 := Rr.cell 0 rfl
    have Yr1 := Rr.cell 1 rfl
    have Lr := Rr.lt
    have Fr0 := Rr.frozen 0
    have Fr1 := Rr.frozen 1
    clear b5
    go_wp2
    refine bodyPost_ret (v := .tuple #[.agg #[.bool false, .slice none 0 0], .slice none 0 0]) (by simp [results, Try.results52, go_sem, Yr0, Yr1, Lr]) rfl ⟨none, 0, none, 0, rfl, IntsAt.nil _, IntsAt.nil _, below_put (below_put B.out (by first | omega | (simp; done) | (simp; omega))) (by first | omega | (simp; done) | (simp; omega))⟩
set_option maxHeartbeats 4000000 in
theorem implBigIntFloorDiv_any : Calls Try.prog 53 #[.agg #[.bool n, .slice a xs.length ca], .slice b ms.length cb] w fun e w' => ∃ p c p2 c2, e = .returned (.tuple #[.agg #[.bool (fdQ n xs ms).neg, .slice p (fdQ n xs ms).mag.length c], .slice p2 (fdR n xs ms).length c2]) ∧
    Two w' w.heap.size w'.heap.size (.slice p (fdQ n xs ms).mag.length c) (.slice p2 (fdR n xs ms).length c2) (fdQ n xs ms).mag (fdR n xs ms) ∧ Below w.heap.size w w' := by
  have HA := Lib.hid ha
  have HB := Lib.hid hb
  clear ha hb
  by_cases h1 : bigOkB n xs = true
  · by_cases h2 : natOkB ms = true
    · by_cases h3 : 0 < ms.length
      · have hfd : fdB n xs ms = true := by unfold fdB; rw [h1, h2, decide_eq_true h3]; rfl
        have HL := Lib.hid (ok_len (bigOk_nat h1))
        have HM := Lib.hid (ok_len h2)
        have HX := Lib.hid (ok_digs (bigOk_nat h1))
        have HY := Lib.hid (ok_digs h2)
        have h0 : 0 < val ms := by have := HY.out; rw [← this, digs_len_pos] at h3; exact h3
        have HD := Lib.hid (div_bounds (ys := ms) (ok_rng (bigOk_nat h1)) (ok_len (bigOk_nat h1)))
        have hz : ((ms.length : Int) == 0) = false := beq_eq_false_iff_ne.2 (by omega)
        by_cases hup : fdUp n xs ms = true
        · have hup' := hup
          unfold fdUp at hup'
          simp only [Bool.and_eq_true, decide_eq_true_eq] at hup'
          obtain ⟨hn1, hr⟩ := hup'
          subst hn1
          have hfit := fd_fit (bigOk_nat h1) hr h0
          rw [(fd_up hfd hup).1, (fd_up hfd hup).2]
          have HH := implFloor_up a ca xs b cb ms w HA.out hn HB.out hm h1 h2 hz (val xs / val ms) (val xs % val ms) (val ms) (fun W hu hv => natDiv_any a ca xs b cb ms W hu hv (by have := HL.out; omega) (by have := HM.out; omega) HX.out HY.out h0) (digs_len_pos.2 hr) (by have := HD.out.1; have := HL.out; omega) rfl HY.out (Nat.mod_lt _ h0) hfit
          exact HH
        · have hup' := Bool.eq_false_iff.2 hup
          have hq6 : (digs (val xs / val ms)).length ≤ 60 := by have := HD.out.1; have := HL.out; omega
          have hno : n = false ∨ val xs % val ms = 0 := by
            unfold fdUp at hup'
            cases n
            · exact .inl rfl
            · right; simpa using hup'
          rw [(fd_down hfd hup').1, (fd_down hfd hup').2]
          have HH := implFloor_down n a ca xs b cb ms w HA.out hn HB.out hm h1 h2 hz (val xs / val ms) (val xs % val ms) (fun W hu hv => natDiv_any a ca xs b cb ms W hu hv (by have := HL.out; omega) (by have := HM.out; omega) HX.out HY.out h0) hno (by omega)
          exact HH
      · have hfd : fdB n xs ms = false := by unfold fdB; rw [decide_eq_false h3]; simp
        have hz : ((ms.length : Int) == 0) = true := beq_iff_eq.2 (by omega)
        rw [(fd_no hfd).1, (fd_no hfd).2]
        dsimp only [List.length_nil]
        clear hfd
        go_enter Try.func53, Try.ntmps53
        go_wp2_with fail
        refine (implBigIntOk_any n a ca xs _ (HA.out.below (ba2 _ _ _)) hn).mono ?_
        rintro e W6 ⟨rfl, b6⟩
        have Rx := bx2_0 b6
        have Rr := bx2_1 b6
        have B := Lib.hid (bstep (ba2 _ _ _) b6)
        have sb6 := b6.size
        try simp at sb6
        have Yx0 := Rx.cell 0 rfl
        have Yx1 := Rx.cell 1 rfl
        have Lx := Rx.lt
        have Yr0 := Rr.cell 0 rfl
        have Yr1 := Rr.cell 1 rfl
        have Lr := Rr.lt
        have Fr0 := Rr.frozen 0
        have Fr1 := Rr.frozen 1
        clear b6
        go_wp2_with fail
        refine (implNatOk_b b cb ms _ (HB.out.below B.out) hm).mono ?_
        rintro e W7 ⟨rfl, b7⟩
        clear Yx0 Yx1 Lx Yr0 Yr1 Lr Fr0 Fr1
        have Rx := box_step Rx b7
        have Rr := box_step Rr b7
        have B := Lib.hid (bstep B.out b7)
        have sb7 := b7.size
        have Yx0 := Rx.cell 0 rfl
        have Yx1 := Rx.cell 1 rfl
        have Lx := Rx.lt
        have Yr0 := Rr.cell 0 rfl
        have Yr1 := Rr.cell 1 rfl
        have Lr := Rr.lt
        have Fr0 := Rr.frozen 0
        have Fr1 := Rr.frozen 1
        clear b7
        go_wp2
        refine bodyPost_ret (v := .tuple #[.agg #[.bool false, .slice none 0 0], .slice none 0 0]) (by simp [results, Try.results53, go_sem, Yr0, Yr1, Lr]) rfl ⟨none, 0, none, 0, rfl, two_nil _ _ _ (by simpa using B.out.size), below_put (below_put B.out (by first | omega | (simp; done) | (simp; omega))) (by first | omega | (simp; done) | (simp; omega))⟩
    · have h2' := Bool.eq_false_iff.2 h2
      have hfd : fdB n xs ms = false := by unfold fdB; rw [h2']; simp
      rw [(fd_no hfd).1, (fd_no hfd).2]
      dsimp only [List.length_nil]
      clear hfd
      go_enter Try.func53, Try.ntmps53
      go_wp2_with fail
      refine (implBigIntOk_any n a ca xs _ (HA.out.below (ba2 _ _ _)) hn).mono ?_
      rintro e W8 ⟨rfl, b8⟩
      have Rx := bx2_0 b8
      have Rr := bx2_1 b8
      have B := Lib.hid (bstep (ba2 _ _ _) b8)
      have sb8 := b8.size
      try simp at sb8
      have Yx0 := Rx.cell 0 rfl
      have Yx1 := Rx.cell 1 rfl
      have Lx := Rx.lt
      have Yr0 := Rr.cell 0 rfl
      have Yr1 := Rr.cell 1 rfl
      have Lr := Rr.lt
      have Fr0 := Rr.frozen 0
      have Fr1 := Rr.frozen 1
      clear b8
      go_wp2_with fail
      refine (implNatOk_b b cb ms _ (HB.out.below B.out) hm).mono ?_
      rintro e W9 ⟨rfl, b9⟩
      clear Yx0 Yx1 Lx Yr0 Yr1 Lr Fr0 Fr1
      have Rx := box_step Rx b9
      have Rr := box_step Rr b9
      have B := Lib.hid (bstep B.out b9)
      have sb9 := b9.size
      have Yx0 := Rx.cell 0 rfl
      have Yx1 := Rx.cell 1 rfl
      have Lx := Rx.lt
      have Yr0 := Rr.cell 0 rfl
      have Yr1 := Rr.cell 1 rfl
      have Lr := Rr.lt
      have Fr0 := Rr.frozen 0
      have Fr1 := Rr.frozen 1
      clear b9
      go_wp2
      refine bodyPost_ret (v := .tuple #[.agg #[.bool false, .slice none 0 0], .slice none 0 0]) (by simp [results, Try.results53, go_sem, Yr0, Yr1, Lr]) rfl ⟨none, 0, none, 0, rfl, two_nil _ _ _ (by simpa using B.out.size), below_put (below_put B.out (by first | omega | (simp; done) | (simp; omega))) (by first | omega | (simp; done) | (simp; omega))⟩
  · have h1' := Bool.eq_false_iff.2 h1
    have hfd : fdB n xs ms = false := by unfold fdB; rw [h1']; rfl
    rw [(fd_no hfd).1, (fd_no hfd).2]
    dsimp only [List.length_nil]
    clear hfd
    go_enter Try.func53, Try.ntmps53
    go_wp2_with fail
    refine (implBigIntOk_any n a ca xs _ (HA.out.below (ba2 _ _ _)) hn).mono ?_
    rintro e W10 ⟨rfl, b10⟩
    have Rx := bx2_0 b10
    have Rr := bx2_1 b10
    have B := Lib.hid (bstep (ba2 _ _ _) b10)
    have sb10 := b10.size
    try simp at sb10
    have Yx0 := Rx.cell 0 rfl
    have Yx1 := Rx.cell 1 rfl
    have Lx := Rx.lt
    have Yr0 := Rr.cell 0 rfl
    have Yr1 := Rr.cell 1 rfl
    have Lr := Rr.lt
    have Fr0 := Rr.frozen 0
    have Fr1 := Rr.frozen 1
    clear b10
    go_wp2
    refine bodyPost_ret (v := .tuple #[.agg #[.bool false, .slice none 0 0], .slice none 0 0]) (by simp [results, Try.results53, go_sem, Yr0, Yr1, Lr]) rfl ⟨none, 0, none, 0, rfl, two_nil _ _ _ (by simpa using B.out.size), below_put (below_put B.out (by first | omega | (simp; done) | (simp; omega))) (by first | omega | (simp; done) | (simp; omega))⟩
end
end Go.Proofs.Ytcbamiablkbeoaa
