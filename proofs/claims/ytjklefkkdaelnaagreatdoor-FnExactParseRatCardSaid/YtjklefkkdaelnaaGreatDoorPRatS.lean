/- ParseRat: the reference. -/
import Derived.Test.YtjklefkkdaelnaaGreatDoorPRat
namespace Go.Proofs.YtjklefkkdaelnaaGreatDoor
set_option linter.unusedVariables false
set_option linter.unusedSimpArgs false
open Go.RowKit
theorem own_lit1 (w : World) : Own 3 (w.alloc (.cells #[.int .i64 1] 3)) w.heap.size (.slice (some ⟨w.heap.size, 0, none⟩) 1 1) [1] :=
  ⟨by intro x hx; simp at hx; subst hx; unfold In64; omega, World.ownsRow_lit (base := w.heap.size) (size := 1) (e := 3) w #[.int .i64 1] 1 (Nat.le_refl _) (by unfold maxLen; omega) rfl⟩
set_option maxRecDepth 100000 in
set_option maxHeartbeats 1000000 in
theorem specParseRat_own (s : ByteArray) (w : World) (hs : s.size ≤ 1048576) : Calls Tryz.prog 11 #[.string s] w fun e w' => ∃ p c p2 c2, e = .returned (.tuple #[.agg #[.bool (prV s).neg, .slice p (prV s).num.length c, .slice p2 (prV s).den.length c2], .bool (prOk s)]) ∧
    Two w' w.heap.size w'.heap.size (.slice p (prV s).num.length c) (.slice p2 (prV s).den.length c2) (prV s).num (prV s).den ∧ Below w.heap.size w w' := by
  have hns : (prN s).size ≤ 1048576 := Nat.le_trans (prN_size s) hs
  have hpc := fun x hx => Nat.le_trans (piece_size s ⟨#[47]⟩ x hx) hs
  have hsp := splitAny_len (by_ := ⟨#[47]⟩) hs
  obtain ⟨N, hN⟩ : ∃ N, N = prN s := ⟨_, rfl⟩
  obtain ⟨V, hV⟩ : ∃ V, V = pbV N := ⟨_, rfl⟩
  have hVl : V.mag.length ≤ 1048576 := by have := pbV_len N; rw [hV]; omega
  rcases index_or s.data.toList with hx | ⟨o, hx⟩
  · obtain ⟨a1, a2, a3⟩ := pr_miss hx
    have hxs : splitAny s ⟨#[47]⟩ = [N] := by rw [hN, a1]; exact a3
    obtain ⟨t, htt⟩ : ∃ t, t = prD s := ⟨_, rfl⟩
    have ht : t = prD s ∨ (pnOk (prD s) = false ∧ 2 ≤ s.data.toList.count 47) := .inl htt
    have h49 : t = ⟨#[49]⟩ := by rw [htt]; unfold prD; rw [a2]; rfl
    have hX1 : pnD t = [1] := by rw [h49]; exact pn_one.2
    have hP1 : pnOk t = true := by rw [h49]; exact pn_one.1
    clear a1 a2 a3 hx htt h49 hpc
    obtain ⟨X, hX⟩ : ∃ X, X = pnD t := ⟨_, rfl⟩
    have hXl : X.length ≤ 1048576 := by have := pnD_len t; rw [hX]; omega
    have HF : Hid (prF s t = fmtRat V.neg V.mag X) := by unfold Hid prF; rw [hV, hX, hN]
    have HV : Hid (prOk s = true → t = prD s → prV s = ⟨V.neg, V.mag, X⟩) := by intro h h2; rw [pr_yes h, hV, hX, hN, h2]
    have HT := Lib.hid ht
    have HN := Lib.hid hN
    have HVV := Lib.hid hV
    have HXX := Lib.hid hX
    have HXS := Lib.hid hxs
    have hX2 : X = [1] := by rw [hX]; exact hX1
    have HP1 := Lib.hid hP1
    clear hX1 hP1
    rw [hxs] at hsp
    rw [← hN] at hns
    clear hN hV hX ht hxs
    subst hX2
    go_enter Tryz.func11, Tryz.ntmps11
    go_wp2_with fail
    refine (specSplitAny_own s ⟨#[47]⟩ _ hs (by decide)).mono ?_
    rintro e W1 ⟨ap, ac, rfl, o1, b1⟩
    rw [HXS.out] at o1 ⊢
    have R1 := bx1_0 b1
    have B1 := Lib.hid (bstep (ba1 _ _) b1)
    clear b1
    obtain ⟨bb, off, rfl, hc0'⟩ := o1.i1.get (k := 0) (by simp)
    have hc0 : W1.cell? ⟨bb, off, none⟩ = some (.string N) := hc0'
    clear hc0'
    clear o1
    go_wp2_with fail
    refine (specParseBigInt_own N _ hns).mono ?_
    rintro e W2 ⟨p, c, rfl, o2, b2⟩
    rw [← HVV.out] at o2 ⊢
    have s1 := R1.lt
    have s2 := b2.size
    have R2 := box_step R1 b2
    have B2 := Lib.hid (bstep B1.out b2)
    have O2 := Lib.hid o2
    clear o2 b2 R1 hc0
    go_upto_region 7 with fail
    obtain ⟨W3, hW3⟩ : ∃ W3, W3 = (W2.alloc (.cells #[.bool V.neg, .slice p V.mag.length c] 31)).alloc (.cells #[.int .i64 1] 3) := ⟨_, rfl⟩
    have b3 : Below ((W2.alloc (.cells #[.bool V.neg, .slice p V.mag.length c] 31)).alloc (.cells #[.int .i64 1] 3)).heap.size ((W2.alloc (.cells #[.bool V.neg, .slice p V.mag.length c] 31)).alloc (.cells #[.int .i64 1] 3)) W3 := by rw [hW3]; exact Below.refl _ _
    have o3 : OwnI W3 (W2.heap.size + 1) W3.heap.size (.slice (some ⟨W2.heap.size + 1, 0, none⟩) ([1] : List Int).length 1) [1] := by rw [hW3]; have h := (own_lit1 (W2.alloc (.cells #[.bool V.neg, .slice p V.mag.length c] 31))).toI; simp only [World.size_alloc] at h ⊢; exact h
    rw [← hW3]
    clear hW3
    have s3 := b3.size
    simp at s3
    have R3 := box_step R2 (bstep (ba2 _ _ _) b3)
    have N3 := bx2_0 b3
    have B3 := Lib.hid (bstep (bstep B2.out (ba2 _ _ _)) b3)
    have O3 := Lib.hid ((O2.out.below (ba2 _ _ _)).below b3)
    have D3 := Lib.hid o3
    clear o3 b3 R2
    have n0 := N3.cell 0 rfl
    have n1 := N3.cell 1 rfl
    have nl := N3.lt
    by_cases hok : pbOk N = true
    case neg =>
      have hok' := Bool.eq_false_iff.2 hok
      have HK : prOk s = false := pr_n1 (by rw [← HN.out]; exact hok')
      clear hok
      have Q := box_step R3 (ba1 _ (.cells #[.bool V.neg, .slice p V.mag.length c, .slice (some ⟨W2.heap.size + 1, 0, none⟩) 1 1] 33))
      have Qc0 := Q.cell 0 rfl
      have Qf0 := Q.frozen 0
      have Qc1 := Q.cell 1 rfl
      have Qf1 := Q.frozen 1
      have Qc2 := Q.cell 2 rfl
      have Qf2 := Q.frozen 2
      have Ql := Q.lt
      have BQ := Lib.hid (bstep B3.out (ba1 _ (.cells #[.bool V.neg, .slice p V.mag.length c, .slice (some ⟨W2.heap.size + 1, 0, none⟩) 1 1] 33)))
      have HZ : Hid (prV s = zeroRA ∧ prOk s = false) := ⟨pr_no HK, HK⟩
      clear HK
      go_wp2
      refine bodyPost_ret (v := .tuple #[.agg #[.bool false, .slice none 0 0, .slice none 0 0], .bool false]) (by simp [results, Tryz.results11, go_sem, Qc0, Qc1, Qc2, Ql]) rfl ⟨none, 0, none, 0, by rw [HZ.out.1, HZ.out.2]; rfl, ?_⟩
      rw [HZ.out.1]
      exact ratz_endR (by omega) BQ.out _ _ _
    have hpn := HP1.out
    go_wp2_with fail
    refine (specFormatRat_any V.neg p c V.mag (some ⟨W2.heap.size + 1, 0, none⟩) 1 ([1] : List Int) _ (O3.out.ints.below (ba1 _ _)) hVl (D3.out.ints.below (ba1 _ _)) hXl).mono ?_
    rintro e W4 ⟨rfl, b4⟩
    have s4 := b4.size
    simp at s4
    have X4 := bx1_0 b4
    have R4 := box_step R3 (bstep (ba1 _ _) b4)
    have B4 := Lib.hid (bstep (bstep B3.out (ba1 _ _)) b4)
    have O4 := Lib.hid ((O3.out.below (ba1 _ _)).below b4)
    have D4 := Lib.hid ((D3.out.below (ba1 _ _)).below b4)
    clear b4
    obtain ⟨u, hu⟩ : ∃ u, u = fmtRat V.neg V.mag ([1] : List Int) := ⟨_, rfl⟩
    have HU := Lib.hid hu
    rw [← hu]
    clear hu
    by_cases hem : u.toList.isEmpty = true
    case pos =>
      have HK : prOk s = false := by
        refine pr_n3 HT.out ?_
        rw [HF.out, ← HU.out]
        intro e
        have h1 := pr_ne (s := s) (by rw [← HN.out]; exact hok)
        rw [e, h1] at hem
        cases hem
      have Q := R4
      have Qc0 := Q.cell 0 rfl
      have Qf0 := Q.frozen 0
      have Qc1 := Q.cell 1 rfl
      have Qf1 := Q.frozen 1
      have Qc2 := Q.cell 2 rfl
      have Qf2 := Q.frozen 2
      have Ql := Q.lt
      have BQ := Lib.hid (B4.out)
      have HZ : Hid (prV s = zeroRA ∧ prOk s = false) := ⟨pr_no HK, HK⟩
      clear HK
      go_wp2
      refine bodyPost_ret (v := .tuple #[.agg #[.bool false, .slice none 0 0, .slice none 0 0], .bool false]) (by simp [results, Tryz.results11, go_sem, Qc0, Qc1, Qc2, Ql]) rfl ⟨none, 0, none, 0, by rw [HZ.out.1, HZ.out.2]; rfl, ?_⟩
      rw [HZ.out.1]
      exact ratz_endR (by omega) BQ.out _ _ _
    have hem' := Bool.eq_false_iff.2 hem
    clear hem
    have X4 := X4
    have X4c0 := X4.cell 0 rfl
    have X4c1 := X4.cell 1 rfl
    have X4c2 := X4.cell 2 rfl
    have X4l := X4.lt
    go_wp2_with fail
    refine (specFormatRat_any V.neg p c V.mag (some ⟨W2.heap.size + 1, 0, none⟩) 1 ([1] : List Int) _ O4.out.ints hVl D4.out.ints hXl).mono ?_
    rintro e W5 ⟨rfl, b5⟩
    have s5 := b5.size
    rw [← HU.out]
    have X5 := box_step X4 b5
    have R5 := box_step R4 b5
    have B5 := Lib.hid (bstep B4.out b5)
    have OQ := Lib.hid (Two.of (O4.out.below b5) (D4.out.below b5) (lo := W1.heap.size) (hi := W5.heap.size) (Nat.le_refl _) (by first | omega | (simp; done) | (simp; omega)) (by first | omega | (simp; done) | (simp; omega)) (by first | omega | (simp; done) | (simp; omega)) (by first | omega | (simp; done) | (simp; omega)))
    clear b5 X4c0 X4c1 X4c2 X4l
    by_cases he : u = s
    case neg =>
      have HK : prOk s = false := pr_n3 HT.out (by rw [HF.out, ← HU.out]; exact he)
      have hne := str_ne he
      have Q := R5
      have Qc0 := Q.cell 0 rfl
      have Qf0 := Q.frozen 0
      have Qc1 := Q.cell 1 rfl
      have Qf1 := Q.frozen 1
      have Qc2 := Q.cell 2 rfl
      have Qf2 := Q.frozen 2
      have Ql := Q.lt
      have BQ := Lib.hid (B5.out)
      have HZ : Hid (prV s = zeroRA ∧ prOk s = false) := ⟨pr_no HK, HK⟩
      clear HK
      go_wp2
      refine bodyPost_ret (v := .tuple #[.agg #[.bool false, .slice none 0 0, .slice none 0 0], .bool false]) (by simp [results, Tryz.results11, go_sem, Qc0, Qc1, Qc2, Ql]) rfl ⟨none, 0, none, 0, by rw [HZ.out.1, HZ.out.2]; rfl, ?_⟩
      rw [HZ.out.1]
      exact ratz_endR (by omega) BQ.out _ _ _
    obtain ⟨HK, hTD⟩ := pr_same HT.out (by rw [← HN.out]; exact hok) hpn (by rw [HF.out, ← HU.out]; exact he)
    have HPV := HV.out HK hTD
    have HZ : Hid (prV s = ⟨V.neg, V.mag, ([1] : List Int)⟩ ∧ prOk s = true) := ⟨HPV, HK⟩
    rw [he]
    clear he HK HPV hTD
    have Q := R5
    have Qc0 := Q.cell 0 rfl
    have Qf0 := Q.frozen 0
    have Qc1 := Q.cell 1 rfl
    have Qf1 := Q.frozen 1
    have Qc2 := Q.cell 2 rfl
    have Qf2 := Q.frozen 2
    have Ql := Q.lt
    have X5 := X5
    have X5c0 := X5.cell 0 rfl
    have X5c1 := X5.cell 1 rfl
    have X5c2 := X5.cell 2 rfl
    have X5l := X5.lt
    go_wp2
    refine bodyPost_ret (v := .tuple #[.agg #[.bool V.neg, .slice p V.mag.length c, .slice (some ⟨W2.heap.size + 1, 0, none⟩) 1 1], .bool true]) (by simp [results, Tryz.results11, go_sem, Qc0, Qc1, Qc2, Ql]) rfl ⟨p, c, (some ⟨W2.heap.size + 1, 0, none⟩), 1, by rw [HZ.out.1, HZ.out.2]; rfl, ?_⟩
    rw [HZ.out.1]
    exact rat_endR (by omega) (by first | omega | (simp; done) | (simp; omega)) OQ.out (Nat.le_refl _) B5.out _ _ _
  · obtain ⟨hH, t, ts, hxs, ht⟩ := pr_hit hx
    have hts : t.size ≤ 1048576 := hpc t (by rw [hxs]; simp)
    rw [← hN] at hxs
    clear hH hx hpc
    obtain ⟨X, hX⟩ : ∃ X, X = pnD t := ⟨_, rfl⟩
    have hXl : X.length ≤ 1048576 := by have := pnD_len t; rw [hX]; omega
    have HF : Hid (prF s t = fmtRat V.neg V.mag X) := by unfold Hid prF; rw [hV, hX, hN]
    have HV : Hid (prOk s = true → t = prD s → prV s = ⟨V.neg, V.mag, X⟩) := by intro h h2; rw [pr_yes h, hV, hX, hN, h2]
    have HT := Lib.hid ht
    have HN := Lib.hid hN
    have HVV := Lib.hid hV
    have HXX := Lib.hid hX
    have HXS := Lib.hid hxs
    rw [hxs] at hsp
    rw [← hN] at hns
    clear hN hV hX ht hxs
    go_enter Tryz.func11, Tryz.ntmps11
    go_wp2_with fail
    refine (specSplitAny_own s ⟨#[47]⟩ _ hs (by decide)).mono ?_
    rintro e W1 ⟨ap, ac, rfl, o1, b1⟩
    rw [HXS.out] at o1 ⊢
    have R1 := bx1_0 b1
    have B1 := Lib.hid (bstep (ba1 _ _) b1)
    clear b1
    obtain ⟨bb, off, rfl, hc0'⟩ := o1.i1.get (k := 0) (by simp)
    have hc0 : W1.cell? ⟨bb, off, none⟩ = some (.string N) := hc0'
    clear hc0'
    obtain ⟨bb2, off2, hbo, hc1'⟩ := o1.i1.get (k := 1) (by simp)
    obtain ⟨rfl, rfl⟩ : bb2 = bb ∧ off2 = off := by simpa using hbo.symm
    have hc1 : W1.cell? ⟨bb2, off2 + 1, none⟩ = some (.string t) := hc1'
    clear hc1' hbo
    obtain ⟨ln, hln⟩ : ∃ ln, ln = (N :: t :: ts).length := ⟨_, rfl⟩
    have hl2 : 1 < ln := by rw [hln]; simp
    rw [← hln] at hsp ⊢
    have HC1 := Lib.hid hc1
    have hbl := World.block_lt_of_cell? _ _ hc1
    clear hc1 hln
    clear o1
    go_wp2_with fail
    refine (specParseBigInt_own N _ hns).mono ?_
    rintro e W2 ⟨p, c, rfl, o2, b2⟩
    rw [← HVV.out] at o2 ⊢
    have s1 := R1.lt
    have s2 := b2.size
    have HC2 : Hid (W2.cell? ⟨bb2, off2 + 1, none⟩ = some (.string t)) := (b2.cell (p := ⟨bb2, off2 + 1, none⟩) hbl).trans HC1.out
    have hbl2 : bb2 < W2.heap.size := by omega
    have R2 := box_step R1 b2
    have B2 := Lib.hid (bstep B1.out b2)
    have O2 := Lib.hid o2
    clear o2 b2 R1 hc0
    have hc3 : ((W2.alloc (.cells #[.bool V.neg, .slice p V.mag.length c] 31)).alloc (.cells #[.int .i64 1] 3)).cell? ⟨bb2, off2 + 1, none⟩ = some (.string t) := ((ba2 W2 (.cells #[.bool V.neg, .slice p V.mag.length c] 31) (.cells #[.int .i64 1] 3)).cell (p := ⟨bb2, off2 + 1, none⟩) hbl2).trans HC2.out
    go_wp2_with fail
    refine (specParseNat_own t _ hts).mono ?_
    rintro e W3 ⟨p2, c2, rfl, o3, b3⟩
    rw [← HXX.out] at o3 ⊢
    clear hc3
    have s3 := b3.size
    simp at s3
    have R3 := box_step R2 (bstep (ba2 _ _ _) b3)
    have N3 := bx2_0 b3
    have B3 := Lib.hid (bstep (bstep B2.out (ba2 _ _ _)) b3)
    have O3 := Lib.hid ((O2.out.below (ba2 _ _ _)).below b3)
    have D3 := Lib.hid o3
    clear o3 b3 R2
    have n0 := N3.cell 0 rfl
    have n1 := N3.cell 1 rfl
    have nl := N3.lt
    by_cases hok : pbOk N = true
    case neg =>
      have hok' := Bool.eq_false_iff.2 hok
      have HK : prOk s = false := pr_n1 (by rw [← HN.out]; exact hok')
      clear hok
      have Q := box_step R3 (ba1 _ (.cells #[.bool V.neg, .slice p V.mag.length c, .slice p2 X.length c2] 33))
      have Qc0 := Q.cell 0 rfl
      have Qf0 := Q.frozen 0
      have Qc1 := Q.cell 1 rfl
      have Qf1 := Q.frozen 1
      have Qc2 := Q.cell 2 rfl
      have Qf2 := Q.frozen 2
      have Ql := Q.lt
      have BQ := Lib.hid (bstep B3.out (ba1 _ (.cells #[.bool V.neg, .slice p V.mag.length c, .slice p2 X.length c2] 33)))
      have HZ : Hid (prV s = zeroRA ∧ prOk s = false) := ⟨pr_no HK, HK⟩
      clear HK
      go_wp2
      refine bodyPost_ret (v := .tuple #[.agg #[.bool false, .slice none 0 0, .slice none 0 0], .bool false]) (by simp [results, Tryz.results11, go_sem, Qc0, Qc1, Qc2, Ql]) rfl ⟨none, 0, none, 0, by rw [HZ.out.1, HZ.out.2]; rfl, ?_⟩
      rw [HZ.out.1]
      exact ratz_endR (by omega) BQ.out _ _ _
    by_cases hpn : pnOk t = true
    case neg =>
      have hpn' := Bool.eq_false_iff.2 hpn
      have HK : prOk s = false := pr_n2 HT.out hpn'
      clear hpn
      have Q := box_step R3 (ba1 _ (.cells #[.bool V.neg, .slice p V.mag.length c, .slice p2 X.length c2] 33))
      have Qc0 := Q.cell 0 rfl
      have Qf0 := Q.frozen 0
      have Qc1 := Q.cell 1 rfl
      have Qf1 := Q.frozen 1
      have Qc2 := Q.cell 2 rfl
      have Qf2 := Q.frozen 2
      have Ql := Q.lt
      have BQ := Lib.hid (bstep B3.out (ba1 _ (.cells #[.bool V.neg, .slice p V.mag.length c, .slice p2 X.length c2] 33)))
      have HZ : Hid (prV s = zeroRA ∧ prOk s = false) := ⟨pr_no HK, HK⟩
      clear HK
      go_wp2
      refine bodyPost_ret (v := .tuple #[.agg #[.bool false, .slice none 0 0, .slice none 0 0], .bool false]) (by simp [results, Tryz.results11, go_sem, Qc0, Qc1, Qc2, Ql]) rfl ⟨none, 0, none, 0, by rw [HZ.out.1, HZ.out.2]; rfl, ?_⟩
      rw [HZ.out.1]
      exact ratz_endR (by omega) BQ.out _ _ _
    go_wp2_with fail
    refine (specFormatRat_any V.neg p c V.mag p2 c2 X _ (O3.out.ints.below (ba1 _ _)) hVl (D3.out.ints.below (ba1 _ _)) hXl).mono ?_
    rintro e W4 ⟨rfl, b4⟩
    have s4 := b4.size
    simp at s4
    have X4 := bx1_0 b4
    have R4 := box_step R3 (bstep (ba1 _ _) b4)
    have B4 := Lib.hid (bstep (bstep B3.out (ba1 _ _)) b4)
    have O4 := Lib.hid ((O3.out.below (ba1 _ _)).below b4)
    have D4 := Lib.hid ((D3.out.below (ba1 _ _)).below b4)
    clear b4
    obtain ⟨u, hu⟩ : ∃ u, u = fmtRat V.neg V.mag X := ⟨_, rfl⟩
    have HU := Lib.hid hu
    rw [← hu]
    clear hu
    by_cases hem : u.toList.isEmpty = true
    case pos =>
      have HK : prOk s = false := by
        refine pr_n3 HT.out ?_
        rw [HF.out, ← HU.out]
        intro e
        have h1 := pr_ne (s := s) (by rw [← HN.out]; exact hok)
        rw [e, h1] at hem
        cases hem
      have Q := R4
      have Qc0 := Q.cell 0 rfl
      have Qf0 := Q.frozen 0
      have Qc1 := Q.cell 1 rfl
      have Qf1 := Q.frozen 1
      have Qc2 := Q.cell 2 rfl
      have Qf2 := Q.frozen 2
      have Ql := Q.lt
      have BQ := Lib.hid (B4.out)
      have HZ : Hid (prV s = zeroRA ∧ prOk s = false) := ⟨pr_no HK, HK⟩
      clear HK
      go_wp2
      refine bodyPost_ret (v := .tuple #[.agg #[.bool false, .slice none 0 0, .slice none 0 0], .bool false]) (by simp [results, Tryz.results11, go_sem, Qc0, Qc1, Qc2, Ql]) rfl ⟨none, 0, none, 0, by rw [HZ.out.1, HZ.out.2]; rfl, ?_⟩
      rw [HZ.out.1]
      exact ratz_endR (by omega) BQ.out _ _ _
    have hem' := Bool.eq_false_iff.2 hem
    clear hem
    have X4 := X4
    have X4c0 := X4.cell 0 rfl
    have X4c1 := X4.cell 1 rfl
    have X4c2 := X4.cell 2 rfl
    have X4l := X4.lt
    go_wp2_with fail
    refine (specFormatRat_any V.neg p c V.mag p2 c2 X _ O4.out.ints hVl D4.out.ints hXl).mono ?_
    rintro e W5 ⟨rfl, b5⟩
    have s5 := b5.size
    rw [← HU.out]
    have X5 := box_step X4 b5
    have R5 := box_step R4 b5
    have B5 := Lib.hid (bstep B4.out b5)
    have OQ := Lib.hid (Two.of (O4.out.below b5) (D4.out.below b5) (lo := W1.heap.size) (hi := W5.heap.size) (Nat.le_refl _) (by first | omega | (simp; done) | (simp; omega)) (by first | omega | (simp; done) | (simp; omega)) (by first | omega | (simp; done) | (simp; omega)) (by first | omega | (simp; done) | (simp; omega)))
    clear b5 X4c0 X4c1 X4c2 X4l
    by_cases he : u = s
    case neg =>
      have HK : prOk s = false := pr_n3 HT.out (by rw [HF.out, ← HU.out]; exact he)
      have hne := str_ne he
      have Q := R5
      have Qc0 := Q.cell 0 rfl
      have Qf0 := Q.frozen 0
      have Qc1 := Q.cell 1 rfl
      have Qf1 := Q.frozen 1
      have Qc2 := Q.cell 2 rfl
      have Qf2 := Q.frozen 2
      have Ql := Q.lt
      have BQ := Lib.hid (B5.out)
      have HZ : Hid (prV s = zeroRA ∧ prOk s = false) := ⟨pr_no HK, HK⟩
      clear HK
      go_wp2
      refine bodyPost_ret (v := .tuple #[.agg #[.bool false, .slice none 0 0, .slice none 0 0], .bool false]) (by simp [results, Tryz.results11, go_sem, Qc0, Qc1, Qc2, Ql]) rfl ⟨none, 0, none, 0, by rw [HZ.out.1, HZ.out.2]; rfl, ?_⟩
      rw [HZ.out.1]
      exact ratz_endR (by omega) BQ.out _ _ _
    obtain ⟨HK, hTD⟩ := pr_same HT.out (by rw [← HN.out]; exact hok) hpn (by rw [HF.out, ← HU.out]; exact he)
    have HPV := HV.out HK hTD
    have HZ : Hid (prV s = ⟨V.neg, V.mag, X⟩ ∧ prOk s = true) := ⟨HPV, HK⟩
    rw [he]
    clear he HK HPV hTD
    have Q := R5
    have Qc0 := Q.cell 0 rfl
    have Qf0 := Q.frozen 0
    have Qc1 := Q.cell 1 rfl
    have Qf1 := Q.frozen 1
    have Qc2 := Q.cell 2 rfl
    have Qf2 := Q.frozen 2
    have Ql := Q.lt
    have X5 := X5
    have X5c0 := X5.cell 0 rfl
    have X5c1 := X5.cell 1 rfl
    have X5c2 := X5.cell 2 rfl
    have X5l := X5.lt
    go_wp2
    refine bodyPost_ret (v := .tuple #[.agg #[.bool V.neg, .slice p V.mag.length c, .slice p2 X.length c2], .bool true]) (by simp [results, Tryz.results11, go_sem, Qc0, Qc1, Qc2, Ql]) rfl ⟨p, c, p2, c2, by rw [HZ.out.1, HZ.out.2], ?_⟩
    rw [HZ.out.1]
    exact rat_endR (by omega) (by first | omega | (simp; done) | (simp; omega)) OQ.out (Nat.le_refl _) B5.out _ _ _
theorem specParseRat_any (s : ByteArray) (w : World) (hs : s.size ≤ 1048576) : Calls Tryz.prog 11 #[.string s] w fun e w' => ∃ p c p2 c2, e = .returned (.tuple #[.agg #[.bool (prV s).neg, .slice p (prV s).num.length c, .slice p2 (prV s).den.length c2], .bool (prOk s)]) ∧ IntsAt w' p c (prV s).num ∧ IntsAt w' p2 c2 (prV s).den ∧ Below w.heap.size w w' :=
  (specParseRat_own s w hs).mono fun _ _ ⟨p, c, p2, c2, h1, h2, h3⟩ => ⟨p, c, p2, c2, h1, h2.i1, h2.i2, h3⟩
end Go.Proofs.YtjklefkkdaelnaaGreatDoor
