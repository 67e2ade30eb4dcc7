/- ParseBigInt: the program. -/
import Derived.Test.YtehhpkeabckdaaaGreatDoorPBigS
import Derived.Test.YtehhpkeabckdaaaGreatDoorParI
namespace Go.Proofs.YtehhpkeabckdaaaGreatDoor
set_option linter.unusedVariables false
set_option linter.unusedSimpArgs false
open Go.RowKit
set_option maxRecDepth 100000 in
set_option maxHeartbeats 1000000 in
theorem implParseBigInt_own (s : ByteArray) (w : World) (hs : s.size ≤ 1048576) (htab : Tab w) : Calls Tryz.prog 19 #[.string s] w fun e w' => ∃ p c, e = .returned (.tuple #[.agg #[.bool (pbV s).neg, .slice p (pbV s).mag.length c], .bool (pbOk s)]) ∧ OwnI w' w.heap.size w'.heap.size (.slice p (pbV s).mag.length c) (pbV s).mag ∧ Below w.heap.size w w' := by
  have HT := Lib.hid htab
  clear htab
  by_cases hp : 0 < s.size
  case neg =>
    have := empty_of hp
    subst this
    have hk := pnOk_nil
    have HOK : pbOk ⟨#[]⟩ = false := rfl
    rw [pb_no HOK, HOK]
    clear HOK hp
    dsimp only [List.length_nil]
    go_enter Tryz.func19, Tryz.ntmps19
    go_wp2_with fail
    refine (implParseNat_any ⟨#[]⟩ _ hs (tabB HT.out (ba1 _ _))).mono ?_
    rintro e W1 ⟨p, c, rfl, hO, b1⟩
    have Rr := bx1_0 b1
    have B := Lib.hid (bstep (ba1 _ _) b1)
    have sb1 := b1.size
    try simp at sb1
    have O := Lib.hid hO
    clear hO
    have Yr0 := Rr.cell 0 rfl
    have Yr1 := Rr.cell 1 rfl
    have Lr := Rr.lt
    have Fr0 := Rr.frozen 0
    have Fr1 := Rr.frozen 1
    clear b1
    have RQ := box_step Rr (ba1 W1 (.cells #[.bool false, .slice p (pnD ⟨#[]⟩).length c] 25))
    have Z0 := RQ.cell 0 rfl
    have Z1 := RQ.cell 1 rfl
    have G0 := RQ.frozen 0
    have G1 := RQ.frozen 1
    have LQ := RQ.lt
    have BQ := Lib.hid (bstep B.out (ba1 _ (.cells #[.bool false, .slice p (pnD ⟨#[]⟩).length c] 25)))
    clear Yr0 Yr1 Fr0 Fr1 Lr
    go_wp2
    refine bodyPost_ret (v := .tuple #[.agg #[.bool false, .slice none 0 0], .bool false]) (by simp [results, Tryz.results19, go_sem, Z0, Z1, LQ]) rfl ⟨none, 0, rfl, zero_endR (by omega) BQ.out _ _⟩
  have hpos : decide ((0 : Int) < (s.size : Int)) = true := decide_eq_true (by omega)
  have hse : s.toList.isEmpty = false := not_empty hp
  have hst : (s.extract 1 s.size).size ≤ 1048576 := by rw [tail_size]; omega
  by_cases h0 : s[0] = 45
  case pos =>
    obtain ⟨hneg, hdig⟩ := pbNeg_yes hp h0
    have h0' : ((s[0].toNat : Int) == 45) = true := by rw [h0]; rfl
    clear h0
    by_cases hk : pnOk (s.extract 1 s.size) = true
    case neg =>
      have hk' := Bool.eq_false_iff.2 hk
      have HOK : pbOk s = false := by unfold pbOk; rw [hdig, hk']; rfl
      rw [pb_no HOK, HOK]
      clear HOK hk hneg hdig
      dsimp only [List.length_nil]
      go_enter Tryz.func19, Tryz.ntmps19
      go_wp2_with fail
      refine (implParseNat_any (s.extract 1 s.size) _ hst (tabB HT.out (ba1 _ _))).mono ?_
      rintro e W2 ⟨p, c, rfl, hO, b2⟩
      have Rr := bx1_0 b2
      have B := Lib.hid (bstep (ba1 _ _) b2)
      have sb2 := b2.size
      try simp at sb2
      have O := Lib.hid hO
      clear hO
      have Yr0 := Rr.cell 0 rfl
      have Yr1 := Rr.cell 1 rfl
      have Lr := Rr.lt
      have Fr0 := Rr.frozen 0
      have Fr1 := Rr.frozen 1
      clear b2
      have RQ := box_step Rr (ba1 W2 (.cells #[.bool true, .slice p (pnD (s.extract 1 s.size)).length c] 25))
      have Z0 := RQ.cell 0 rfl
      have Z1 := RQ.cell 1 rfl
      have G0 := RQ.frozen 0
      have G1 := RQ.frozen 1
      have LQ := RQ.lt
      have BQ := Lib.hid (bstep B.out (ba1 _ (.cells #[.bool true, .slice p (pnD (s.extract 1 s.size)).length c] 25)))
      clear Yr0 Yr1 Fr0 Fr1 Lr
      go_wp2
      refine bodyPost_ret (v := .tuple #[.agg #[.bool false, .slice none 0 0], .bool false]) (by simp [results, Tryz.results19, go_sem, Z0, Z1, LQ]) rfl ⟨none, 0, rfl, zero_endR (by omega) BQ.out _ _⟩
    by_cases hl : 0 < (pnD (s.extract 1 s.size)).length
    case neg =>
      have HOK : pbOk s = false := by unfold pbOk; rw [hdig, hk, hneg, decide_eq_false hl]; rfl
      have hbo : bigOkB true (pnD (s.extract 1 s.size)) = false := by rw [big_of_pn, decide_eq_false hl]; rfl
      have hz : (((pnD (s.extract 1 s.size)).length : Int) == 0) = true := beq_iff_eq.2 (by omega)
      rw [pb_no HOK, HOK]
      clear HOK hneg hdig hl
      dsimp only [List.length_nil]
      go_enter Tryz.func19, Tryz.ntmps19
      go_wp2_with fail
      refine (implParseNat_any (s.extract 1 s.size) _ hst (tabB HT.out (ba1 _ _))).mono ?_
      rintro e W3 ⟨p, c, rfl, hO, b3⟩
      have Rr := bx1_0 b3
      have B := Lib.hid (bstep (ba1 _ _) b3)
      have sb3 := b3.size
      try simp at sb3
      have O := Lib.hid hO
      clear hO
      have Yr0 := Rr.cell 0 rfl
      have Yr1 := Rr.cell 1 rfl
      have Lr := Rr.lt
      have Fr0 := Rr.frozen 0
      have Fr1 := Rr.frozen 1
      clear b3
      go_wp2_with fail
      refine (implBigIntOk_any true p c (pnD (s.extract 1 s.size)) _ (O.out.ints.below (ba1 _ _)) (by have := pnD_len ((s.extract 1 s.size)); omega)).mono ?_
      rintro e W9 ⟨rfl, b9⟩
      have sz9 := b9.size
      simp at sz9
      have RQ := box_step Rr (bstep (ba1 _ _) b9)
      have XQ := bx1_0 b9
      have Z0 := RQ.cell 0 rfl
      have Z1 := RQ.cell 1 rfl
      have G0 := RQ.frozen 0
      have G1 := RQ.frozen 1
      have LQ := RQ.lt
      have V0 := XQ.cell 0 rfl
      have V1 := XQ.cell 1 rfl
      have LX := XQ.lt
      have BQ := Lib.hid (bstep (bstep B.out (ba1 _ _)) b9)
      have OQ := Lib.hid ((O.out.below (ba1 _ _)).below b9)
      clear b9 Yr0 Yr1 Fr0 Fr1 Lr
      go_wp2
      refine bodyPost_ret (v := .tuple #[.agg #[.bool false, .slice none 0 0], .bool false]) (by simp [results, Tryz.results19, go_sem, Z0, Z1, LQ]) rfl ⟨none, 0, rfl, zero_endR (by omega) BQ.out _ _⟩
    have HOK : pbOk s = true := by unfold pbOk; rw [hdig, hk, hneg, decide_eq_true hl]; rfl
    have hbo : bigOkB true (pnD (s.extract 1 s.size)) = true := by rw [big_of_pn, decide_eq_true hl]; rfl
    have hz : (((pnD (s.extract 1 s.size)).length : Int) == 0) = false := beq_eq_false_iff_ne.2 (by omega)
    rw [pb_yes HOK, HOK, hneg, hdig]
    clear HOK hneg hdig hl
    dsimp only
    go_enter Tryz.func19, Tryz.ntmps19
    go_wp2_with fail
    refine (implParseNat_any (s.extract 1 s.size) _ hst (tabB HT.out (ba1 _ _))).mono ?_
    rintro e W4 ⟨p, c, rfl, hO, b4⟩
    have Rr := bx1_0 b4
    have B := Lib.hid (bstep (ba1 _ _) b4)
    have sb4 := b4.size
    try simp at sb4
    have O := Lib.hid hO
    clear hO
    have Yr0 := Rr.cell 0 rfl
    have Yr1 := Rr.cell 1 rfl
    have Lr := Rr.lt
    have Fr0 := Rr.frozen 0
    have Fr1 := Rr.frozen 1
    clear b4
    go_wp2_with fail
    refine (implBigIntOk_any true p c (pnD (s.extract 1 s.size)) _ (O.out.ints.below (ba1 _ _)) (by have := pnD_len ((s.extract 1 s.size)); omega)).mono ?_
    rintro e W9 ⟨rfl, b9⟩
    have sz9 := b9.size
    simp at sz9
    have RQ := box_step Rr (bstep (ba1 _ _) b9)
    have XQ := bx1_0 b9
    have Z0 := RQ.cell 0 rfl
    have Z1 := RQ.cell 1 rfl
    have G0 := RQ.frozen 0
    have G1 := RQ.frozen 1
    have LQ := RQ.lt
    have V0 := XQ.cell 0 rfl
    have V1 := XQ.cell 1 rfl
    have LX := XQ.lt
    have BQ := Lib.hid (bstep (bstep B.out (ba1 _ _)) b9)
    have OQ := Lib.hid ((O.out.below (ba1 _ _)).below b9)
    clear b9 Yr0 Yr1 Fr0 Fr1 Lr
    go_wp2
    refine bodyPost_ret (v := .tuple #[.agg #[.bool true, .slice p (pnD (s.extract 1 s.size)).length c], .bool true]) (by simp [results, Tryz.results19, go_sem, Z0, Z1, LQ]) rfl ⟨p, c, rfl, big_endR (by first | omega | (simp; done) | (simp; omega)) (by first | omega | (simp; done) | (simp; omega)) OQ.out (by first | omega | (simp; done) | (simp; omega)) BQ.out _ _⟩
  obtain ⟨hneg, hdig⟩ := pbNeg_no hp h0
  have h0' : ((s[0].toNat : Int) == 45) = false := beq_eq_false_iff_ne.2 (fun e => h0 (UInt8.toNat_inj.1 (by have h45 : (45 : UInt8).toNat = 45 := rfl; omega)))
  clear h0
  by_cases hk : pnOk s = true
  case neg =>
    have hk' := Bool.eq_false_iff.2 hk
    have HOK : pbOk s = false := by unfold pbOk; rw [hdig, hk']; rfl
    rw [pb_no HOK, HOK]
    clear HOK hk hneg hdig
    dsimp only [List.length_nil]
    go_enter Tryz.func19, Tryz.ntmps19
    go_wp2_with fail
    refine (implParseNat_any s _ hs (tabB HT.out (ba1 _ _))).mono ?_
    rintro e W5 ⟨p, c, rfl, hO, b5⟩
    have Rr := bx1_0 b5
    have B := Lib.hid (bstep (ba1 _ _) b5)
    have sb5 := b5.size
    try simp at sb5
    have O := Lib.hid hO
    clear hO
    have Yr0 := Rr.cell 0 rfl
    have Yr1 := Rr.cell 1 rfl
    have Lr := Rr.lt
    have Fr0 := Rr.frozen 0
    have Fr1 := Rr.frozen 1
    clear b5
    have RQ := box_step Rr (ba1 W5 (.cells #[.bool false, .slice p (pnD s).length c] 25))
    have Z0 := RQ.cell 0 rfl
    have Z1 := RQ.cell 1 rfl
    have G0 := RQ.frozen 0
    have G1 := RQ.frozen 1
    have LQ := RQ.lt
    have BQ := Lib.hid (bstep B.out (ba1 _ (.cells #[.bool false, .slice p (pnD s).length c] 25)))
    clear Yr0 Yr1 Fr0 Fr1 Lr
    go_wp2
    refine bodyPost_ret (v := .tuple #[.agg #[.bool false, .slice none 0 0], .bool false]) (by simp [results, Tryz.results19, go_sem, Z0, Z1, LQ]) rfl ⟨none, 0, rfl, zero_endR (by omega) BQ.out _ _⟩
  have HOK : pbOk s = true := by unfold pbOk; rw [hdig, hk, hneg]; rfl
  have hbo : bigOkB false (pnD s) = true := by rw [big_of_pn]; rfl
  rw [pb_yes HOK, HOK, hneg, hdig]
  clear HOK hneg hdig
  dsimp only
  go_enter Tryz.func19, Tryz.ntmps19
  go_wp2_with fail
  refine (implParseNat_any s _ hs (tabB HT.out (ba1 _ _))).mono ?_
  rintro e W6 ⟨p, c, rfl, hO, b6⟩
  have Rr := bx1_0 b6
  have B := Lib.hid (bstep (ba1 _ _) b6)
  have sb6 := b6.size
  try simp at sb6
  have O := Lib.hid hO
  clear hO
  have Yr0 := Rr.cell 0 rfl
  have Yr1 := Rr.cell 1 rfl
  have Lr := Rr.lt
  have Fr0 := Rr.frozen 0
  have Fr1 := Rr.frozen 1
  clear b6
  go_wp2_with fail
  refine (implBigIntOk_any false p c (pnD s) _ (O.out.ints.below (ba1 _ _)) (by have := pnD_len (s); omega)).mono ?_
  rintro e W9 ⟨rfl, b9⟩
  have sz9 := b9.size
  simp at sz9
  have RQ := box_step Rr (bstep (ba1 _ _) b9)
  have XQ := bx1_0 b9
  have Z0 := RQ.cell 0 rfl
  have Z1 := RQ.cell 1 rfl
  have G0 := RQ.frozen 0
  have G1 := RQ.frozen 1
  have LQ := RQ.lt
  have V0 := XQ.cell 0 rfl
  have V1 := XQ.cell 1 rfl
  have LX := XQ.lt
  have BQ := Lib.hid (bstep (bstep B.out (ba1 _ _)) b9)
  have OQ := Lib.hid ((O.out.below (ba1 _ _)).below b9)
  clear b9 Yr0 Yr1 Fr0 Fr1 Lr
  go_wp2
  refine bodyPost_ret (v := .tuple #[.agg #[.bool false, .slice p (pnD s).length c], .bool true]) (by simp [results, Tryz.results19, go_sem, Z0, Z1, LQ]) rfl ⟨p, c, rfl, big_endR (by first | omega | (simp; done) | (simp; omega)) (by first | omega | (simp; done) | (simp; omega)) OQ.out (by first | omega | (simp; done) | (simp; omega)) BQ.out _ _⟩
theorem implParseBigInt_any (s : ByteArray) (w : World) (hs : s.size ≤ 1048576) (htab : Tab w) : Calls Tryz.prog 19 #[.string s] w fun e w' => ∃ p c, e = .returned (.tuple #[.agg #[.bool (pbV s).neg, .slice p (pbV s).mag.length c], .bool (pbOk s)]) ∧ OwnI w' w.heap.size w'.heap.size (.slice p (pbV s).mag.length c) (pbV s).mag ∧ Below w.heap.size w w' := implParseBigInt_own s w hs htab
end Go.Proofs.YtehhpkeabckdaaaGreatDoor
