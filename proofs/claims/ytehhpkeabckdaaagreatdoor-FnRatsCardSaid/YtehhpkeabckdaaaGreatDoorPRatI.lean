/- ParseRat: the program. -/
import Derived.Test.YtehhpkeabckdaaaGreatDoorPRat
import Derived.Test.YtehhpkeabckdaaaGreatDoorPBigI
import Derived.Test.YtehhpkeabckdaaaGreatDoorFmtRI
import Derived.Test.YtehhpkeabckdaaaGreatDoorLinesW
namespace Go.Proofs.YtehhpkeabckdaaaGreatDoor
set_option linter.unusedVariables false
set_option linter.unusedSimpArgs false
open Go.RowKit
theorem cut_any (s : ByteArray) (w : World) (hs : s.size ≤ 1048576) (hm : MaxVar w) : Calls Tryz.prog 18 #[.string s, .string ⟨#[47]⟩] w fun e w' => e = .returned (.tuple #[.string (prN s), .string (prC s), .bool (prH s)]) ∧ Below w.heap.size w w' := by
  obtain ⟨m, hm⟩ := hm
  refine (Tryz.strings_Cut s ⟨#[47]⟩ m w (by omega) hm).mono ?_
  rintro e w' ⟨rfl, n, rfl⟩
  exact ⟨rfl, drewN_any _ _ _⟩
set_option maxRecDepth 100000 in
set_option maxHeartbeats 1000000 in
theorem implParseRat_any (s : ByteArray) (w : World) (hs : s.size ≤ 1048576) (htab : Tab w) (hmx : MaxVar w) : Calls Tryz.prog 5 #[.string s] w fun e w' => ∃ p c p2 c2, e = .returned (.tuple #[.agg #[.bool (prV s).neg, .slice p (prV s).num.length c, .slice p2 (prV s).den.length c2], .bool (prOk s)]) ∧
    Two w' w.heap.size w'.heap.size (.slice p (prV s).num.length c) (.slice p2 (prV s).den.length c2) (prV s).num (prV s).den ∧ Below w.heap.size w w' := by
  have HT := Lib.hid htab
  have HM := Lib.hid hmx
  clear htab hmx
  have hns : (prN s).size ≤ 1048576 := Nat.le_trans (prN_size s) hs
  have hds := prD_size s hs
  obtain ⟨N, hN⟩ : ∃ N, N = prN s := ⟨_, rfl⟩
  obtain ⟨V, hV⟩ : ∃ V, V = pbV N := ⟨_, rfl⟩
  obtain ⟨T, hT⟩ : ∃ T, T = prD s := ⟨_, rfl⟩
  obtain ⟨X, hX⟩ : ∃ X, X = pnD T := ⟨_, rfl⟩
  have hVl : V.mag.length ≤ 1048576 := by have := pbV_len N; rw [hV]; omega
  have hXl : X.length ≤ 1048576 := by have := pnD_len T; rw [hX]; omega
  have HF : Hid (prF s (prD s) = fmtRat V.neg V.mag X) := by unfold Hid prF; rw [hV, hX, hN, hT]
  have HV : Hid (prOk s = true → prV s = ⟨V.neg, V.mag, X⟩) := by intro h; rw [pr_yes h, hV, hX, hN, hT]
  by_cases hh : prH s = true
  case pos =>
    have hTC : prC s = T := by rw [hT]; unfold prD; rw [hh, if_pos rfl]
    have HN := Lib.hid hN
    have HTT := Lib.hid hT
    have HTC := Lib.hid hTC
    have HVV := Lib.hid hV
    have HXX := Lib.hid hX
    have HH := Lib.hid hh
    rw [← hN] at hns
    rw [← hT] at hds
    clear hN hT hTC hV hX hh
    go_enter Tryz.func5, Tryz.ntmps5
    go_wp2_with fail
    refine (cut_any s _ hs (HM.out.below (ba1 _ _))).mono ?_
    rintro e W1 ⟨rfl, b1⟩
    rw [HH.out, ← HN.out, HTC.out]
    have R1 := bx1_0 b1
    have B1 := Lib.hid (bstep (ba1 _ _) b1)
    clear b1
    go_wp2_with fail
    refine (implParseBigInt_own N _ hns (tabB HT.out B1.out)).mono ?_
    rintro e W2 ⟨p, c, rfl, o2, b2⟩
    rw [← HVV.out] at o2 ⊢
    have s1 := R1.lt
    have s2 := b2.size
    have R2 := box_step R1 b2
    have B2 := Lib.hid (bstep B1.out b2)
    have O2 := Lib.hid o2
    clear o2 b2 R1
    go_wp2_with fail
    refine (implParseNat_any T _ hds (tabB HT.out (bstep B2.out (ba1 _ _)))).mono ?_
    rintro e W3 ⟨p2, c2, rfl, o3, b3⟩
    rw [← HXX.out] at o3 ⊢
    have s3 := b3.size
    simp at s3
    have R3 := box_step R2 (bstep (ba1 _ _) b3)
    have N3 := bx1_0 b3
    have B3 := Lib.hid (bstep (bstep B2.out (ba1 _ _)) b3)
    have O3 := Lib.hid ((O2.out.below (ba1 _ _)).below b3)
    have D3 := Lib.hid o3
    clear o3 b3 R2
    have n0 := N3.cell 0 rfl
    have n1 := N3.cell 1 rfl
    have nl := N3.lt
    by_cases hok : pbOk N = true
    case neg =>
      have hok' := Bool.eq_false_iff.2 hok
      have HK : prOk s = false := pr_n1 (by rw [← HN.out]; exact hok')
      clear hok
      have HKK := Lib.hid HK
      clear HK
      have HK := HKK.out
      have Q := box_step R3 (ba1 _ (.cells #[.bool V.neg, .slice p V.mag.length c, .slice p2 X.length c2] 27))
      have Qc0 := Q.cell 0 rfl
      have Qf0 := Q.frozen 0
      have Qc1 := Q.cell 1 rfl
      have Qf1 := Q.frozen 1
      have Qc2 := Q.cell 2 rfl
      have Qf2 := Q.frozen 2
      have Ql := Q.lt
      have BQ := Lib.hid (bstep B3.out (ba1 _ (.cells #[.bool V.neg, .slice p V.mag.length c, .slice p2 X.length c2] 27)))
      have HZ : Hid (prV s = zeroRA ∧ prOk s = false) := ⟨pr_no HK, HK⟩
      clear HK
      go_wp2
      refine bodyPost_ret (v := .tuple #[.agg #[.bool false, .slice none 0 0, .slice none 0 0], .bool false]) (by simp [results, Tryz.results5, go_sem, Qc0, Qc1, Qc2, Ql]) rfl ⟨none, 0, none, 0, by rw [HZ.out.1, HZ.out.2]; rfl, ?_⟩
      rw [HZ.out.1]
      exact ratz_endR (by omega) BQ.out _ _ _
    by_cases hpn : pnOk T = true
    case neg =>
      have hpn' := Bool.eq_false_iff.2 hpn
      have HK : prOk s = false := pr_n2 (t := T) (.inl HTT.out) hpn'
      clear hpn
      have Q := box_step R3 (ba1 _ (.cells #[.bool V.neg, .slice p V.mag.length c, .slice p2 X.length c2] 27))
      have Qc0 := Q.cell 0 rfl
      have Qf0 := Q.frozen 0
      have Qc1 := Q.cell 1 rfl
      have Qf1 := Q.frozen 1
      have Qc2 := Q.cell 2 rfl
      have Qf2 := Q.frozen 2
      have Ql := Q.lt
      have BQ := Lib.hid (bstep B3.out (ba1 _ (.cells #[.bool V.neg, .slice p V.mag.length c, .slice p2 X.length c2] 27)))
      have HZ : Hid (prV s = zeroRA ∧ prOk s = false) := ⟨pr_no HK, HK⟩
      clear HK
      go_wp2
      refine bodyPost_ret (v := .tuple #[.agg #[.bool false, .slice none 0 0, .slice none 0 0], .bool false]) (by simp [results, Tryz.results5, go_sem, Qc0, Qc1, Qc2, Ql]) rfl ⟨none, 0, none, 0, by rw [HZ.out.1, HZ.out.2]; rfl, ?_⟩
      rw [HZ.out.1]
      exact ratz_endR (by omega) BQ.out _ _ _
    go_wp2_with fail
    refine (implFormatRat_any V.neg p c V.mag p2 c2 X _ (O3.out.ints.below (ba1 _ _)) hVl (D3.out.ints.below (ba1 _ _)) hXl (tabB HT.out (bstep B3.out (ba1 _ _)))).mono ?_
    rintro e W4 ⟨rfl, b4⟩
    have s4 := b4.size
    simp at s4
    have X4 := bx1_0 b4
    by_cases he : fmtRat V.neg V.mag X = s
    case neg =>
      have HK : prOk s = false := pr_n3 (t := prD s) (.inl rfl) (by rw [HF.out]; exact he)
      obtain ⟨u, hu⟩ : ∃ u, u = fmtRat V.neg V.mag X := ⟨_, rfl⟩
      rw [← hu] at he ⊢
      have hne := str_ne he
      clear hu
      have Q := box_step R3 (bstep (ba1 _ _) b4)
      have Qc0 := Q.cell 0 rfl
      have Qf0 := Q.frozen 0
      have Qc1 := Q.cell 1 rfl
      have Qf1 := Q.frozen 1
      have Qc2 := Q.cell 2 rfl
      have Qf2 := Q.frozen 2
      have Ql := Q.lt
      have BQ := Lib.hid (bstep (bstep B3.out (ba1 _ _)) b4)
      have HZ : Hid (prV s = zeroRA ∧ prOk s = false) := ⟨pr_no HK, HK⟩
      clear HK
      go_wp2
      refine bodyPost_ret (v := .tuple #[.agg #[.bool false, .slice none 0 0, .slice none 0 0], .bool false]) (by simp [results, Tryz.results5, go_sem, Qc0, Qc1, Qc2, Ql]) rfl ⟨none, 0, none, 0, by rw [HZ.out.1, HZ.out.2]; rfl, ?_⟩
      rw [HZ.out.1]
      exact ratz_endR (by omega) BQ.out _ _ _
    have HK : prOk s = true := by unfold prOk; rw [← HN.out, ← HTT.out, hok, hpn, decide_eq_true (show prF s T = s by rw [HTT.out, HF.out]; exact he)]; rfl
    have HPV := HV.out HK
    have HZ : Hid (prV s = ⟨V.neg, V.mag, X⟩ ∧ prOk s = true) := ⟨HPV, HK⟩
    rw [he]
    clear he HK HPV
    have Q := box_step R3 (bstep (ba1 _ _) b4)
    have Qc0 := Q.cell 0 rfl
    have Qf0 := Q.frozen 0
    have Qc1 := Q.cell 1 rfl
    have Qf1 := Q.frozen 1
    have Qc2 := Q.cell 2 rfl
    have Qf2 := Q.frozen 2
    have Ql := Q.lt
    have X4 := X4
    have X4c0 := X4.cell 0 rfl
    have X4c1 := X4.cell 1 rfl
    have X4c2 := X4.cell 2 rfl
    have X4l := X4.lt
    have BQ := Lib.hid (bstep (bstep B3.out (ba1 _ _)) b4)
    have OQ := Lib.hid (Two.of ((O3.out.below (ba1 _ _)).below b4) ((D3.out.below (ba1 _ _)).below b4) (lo := W1.heap.size) (hi := W4.heap.size) (Nat.le_refl _) (by simp) (by first | omega | (simp; done) | (simp; omega)) (by simp; omega) (by first | omega | (simp; done) | (simp; omega)))
    clear b4
    go_wp2
    refine bodyPost_ret (v := .tuple #[.agg #[.bool V.neg, .slice p V.mag.length c, .slice p2 X.length c2], .bool true]) (by simp [results, Tryz.results5, go_sem, Qc0, Qc1, Qc2, Ql]) rfl ⟨p, c, p2, c2, by rw [HZ.out.1, HZ.out.2], ?_⟩
    rw [HZ.out.1]
    exact rat_endR (by omega) (by first | omega | (simp; done) | (simp; omega)) OQ.out (Nat.le_refl _) BQ.out _ _ _
  case neg =>
    have hh := Bool.eq_false_iff.2 hh
    have hTC : T = ⟨#[49]⟩ := by rw [hT]; unfold prD; rw [hh]; rfl
    have HN := Lib.hid hN
    have HTT := Lib.hid hT
    have HTC := Lib.hid hTC
    have HVV := Lib.hid hV
    have HXX := Lib.hid hX
    have HH := Lib.hid hh
    rw [← hN] at hns
    rw [← hT] at hds
    clear hN hT hTC hV hX hh
    go_enter Tryz.func5, Tryz.ntmps5
    go_wp2_with fail
    refine (cut_any s _ hs (HM.out.below (ba1 _ _))).mono ?_
    rintro e W1 ⟨rfl, b1⟩
    rw [HH.out, ← HN.out]
    have R1 := bx1_0 b1
    have B1 := Lib.hid (bstep (ba1 _ _) b1)
    clear b1
    go_wp2_with fail
    refine (implParseBigInt_own N _ hns (tabB HT.out B1.out)).mono ?_
    rintro e W2 ⟨p, c, rfl, o2, b2⟩
    rw [← HVV.out] at o2 ⊢
    have s1 := R1.lt
    have s2 := b2.size
    have R2 := box_step R1 b2
    have B2 := Lib.hid (bstep B1.out b2)
    have O2 := Lib.hid o2
    clear o2 b2 R1
    go_wp2_with fail
    rw [← HTC.out]
    refine (implParseNat_any T _ hds (tabB HT.out (bstep B2.out (ba1 _ _)))).mono ?_
    rintro e W3 ⟨p2, c2, rfl, o3, b3⟩
    rw [← HXX.out] at o3 ⊢
    have s3 := b3.size
    simp at s3
    have R3 := box_step R2 (bstep (ba1 _ _) b3)
    have N3 := bx1_0 b3
    have B3 := Lib.hid (bstep (bstep B2.out (ba1 _ _)) b3)
    have O3 := Lib.hid ((O2.out.below (ba1 _ _)).below b3)
    have D3 := Lib.hid o3
    clear o3 b3 R2
    have n0 := N3.cell 0 rfl
    have n1 := N3.cell 1 rfl
    have nl := N3.lt
    by_cases hok : pbOk N = true
    case neg =>
      have hok' := Bool.eq_false_iff.2 hok
      have HK : prOk s = false := pr_n1 (by rw [← HN.out]; exact hok')
      clear hok
      have HKK := Lib.hid HK
      clear HK
      have HK := HKK.out
      have Q := box_step R3 (ba1 _ (.cells #[.bool V.neg, .slice p V.mag.length c, .slice p2 X.length c2] 27))
      have Qc0 := Q.cell 0 rfl
      have Qf0 := Q.frozen 0
      have Qc1 := Q.cell 1 rfl
      have Qf1 := Q.frozen 1
      have Qc2 := Q.cell 2 rfl
      have Qf2 := Q.frozen 2
      have Ql := Q.lt
      have BQ := Lib.hid (bstep B3.out (ba1 _ (.cells #[.bool V.neg, .slice p V.mag.length c, .slice p2 X.length c2] 27)))
      have HZ : Hid (prV s = zeroRA ∧ prOk s = false) := ⟨pr_no HK, HK⟩
      clear HK
      go_wp2
      refine bodyPost_ret (v := .tuple #[.agg #[.bool false, .slice none 0 0, .slice none 0 0], .bool false]) (by simp [results, Tryz.results5, go_sem, Qc0, Qc1, Qc2, Ql]) rfl ⟨none, 0, none, 0, by rw [HZ.out.1, HZ.out.2]; rfl, ?_⟩
      rw [HZ.out.1]
      exact ratz_endR (by omega) BQ.out _ _ _
    by_cases hpn : pnOk T = true
    case neg =>
      have hpn' := Bool.eq_false_iff.2 hpn
      have HK : prOk s = false := pr_n2 (t := T) (.inl HTT.out) hpn'
      clear hpn
      have Q := box_step R3 (ba1 _ (.cells #[.bool V.neg, .slice p V.mag.length c, .slice p2 X.length c2] 27))
      have Qc0 := Q.cell 0 rfl
      have Qf0 := Q.frozen 0
      have Qc1 := Q.cell 1 rfl
      have Qf1 := Q.frozen 1
      have Qc2 := Q.cell 2 rfl
      have Qf2 := Q.frozen 2
      have Ql := Q.lt
      have BQ := Lib.hid (bstep B3.out (ba1 _ (.cells #[.bool V.neg, .slice p V.mag.length c, .slice p2 X.length c2] 27)))
      have HZ : Hid (prV s = zeroRA ∧ prOk s = false) := ⟨pr_no HK, HK⟩
      clear HK
      go_wp2
      refine bodyPost_ret (v := .tuple #[.agg #[.bool false, .slice none 0 0, .slice none 0 0], .bool false]) (by simp [results, Tryz.results5, go_sem, Qc0, Qc1, Qc2, Ql]) rfl ⟨none, 0, none, 0, by rw [HZ.out.1, HZ.out.2]; rfl, ?_⟩
      rw [HZ.out.1]
      exact ratz_endR (by omega) BQ.out _ _ _
    go_wp2_with fail
    refine (implFormatRat_any V.neg p c V.mag p2 c2 X _ (O3.out.ints.below (ba1 _ _)) hVl (D3.out.ints.below (ba1 _ _)) hXl (tabB HT.out (bstep B3.out (ba1 _ _)))).mono ?_
    rintro e W4 ⟨rfl, b4⟩
    have s4 := b4.size
    simp at s4
    have X4 := bx1_0 b4
    by_cases he : fmtRat V.neg V.mag X = s
    case neg =>
      have HK : prOk s = false := pr_n3 (t := prD s) (.inl rfl) (by rw [HF.out]; exact he)
      obtain ⟨u, hu⟩ : ∃ u, u = fmtRat V.neg V.mag X := ⟨_, rfl⟩
      rw [← hu] at he ⊢
      have hne := str_ne he
      clear hu
      have Q := box_step R3 (bstep (ba1 _ _) b4)
      have Qc0 := Q.cell 0 rfl
      have Qf0 := Q.frozen 0
      have Qc1 := Q.cell 1 rfl
      have Qf1 := Q.frozen 1
      have Qc2 := Q.cell 2 rfl
      have Qf2 := Q.frozen 2
      have Ql := Q.lt
      have BQ := Lib.hid (bstep (bstep B3.out (ba1 _ _)) b4)
      have HZ : Hid (prV s = zeroRA ∧ prOk s = false) := ⟨pr_no HK, HK⟩
      clear HK
      go_wp2
      refine bodyPost_ret (v := .tuple #[.agg #[.bool false, .slice none 0 0, .slice none 0 0], .bool false]) (by simp [results, Tryz.results5, go_sem, Qc0, Qc1, Qc2, Ql]) rfl ⟨none, 0, none, 0, by rw [HZ.out.1, HZ.out.2]; rfl, ?_⟩
      rw [HZ.out.1]
      exact ratz_endR (by omega) BQ.out _ _ _
    have HK : prOk s = true := by unfold prOk; rw [← HN.out, ← HTT.out, hok, hpn, decide_eq_true (show prF s T = s by rw [HTT.out, HF.out]; exact he)]; rfl
    have HPV := HV.out HK
    have HZ : Hid (prV s = ⟨V.neg, V.mag, X⟩ ∧ prOk s = true) := ⟨HPV, HK⟩
    rw [he]
    clear he HK HPV
    have Q := box_step R3 (bstep (ba1 _ _) b4)
    have Qc0 := Q.cell 0 rfl
    have Qf0 := Q.frozen 0
    have Qc1 := Q.cell 1 rfl
    have Qf1 := Q.frozen 1
    have Qc2 := Q.cell 2 rfl
    have Qf2 := Q.frozen 2
    have Ql := Q.lt
    have X4 := X4
    have X4c0 := X4.cell 0 rfl
    have X4c1 := X4.cell 1 rfl
    have X4c2 := X4.cell 2 rfl
    have X4l := X4.lt
    have BQ := Lib.hid (bstep (bstep B3.out (ba1 _ _)) b4)
    have OQ := Lib.hid (Two.of ((O3.out.below (ba1 _ _)).below b4) ((D3.out.below (ba1 _ _)).below b4) (lo := W1.heap.size) (hi := W4.heap.size) (Nat.le_refl _) (by simp) (by first | omega | (simp; done) | (simp; omega)) (by simp; omega) (by first | omega | (simp; done) | (simp; omega)))
    clear b4
    go_wp2
    refine bodyPost_ret (v := .tuple #[.agg #[.bool V.neg, .slice p V.mag.length c, .slice p2 X.length c2], .bool true]) (by simp [results, Tryz.results5, go_sem, Qc0, Qc1, Qc2, Ql]) rfl ⟨p, c, p2, c2, by rw [HZ.out.1, HZ.out.2], ?_⟩
    rw [HZ.out.1]
    exact rat_endR (by omega) (by first | omega | (simp; done) | (simp; omega)) OQ.out (Nat.le_refl _) BQ.out _ _ _
end Go.Proofs.YtehhpkeabckdaaaGreatDoor
