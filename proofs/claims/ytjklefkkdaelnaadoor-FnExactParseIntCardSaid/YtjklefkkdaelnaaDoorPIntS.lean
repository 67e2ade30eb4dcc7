/- ParseInt: the reference. -/
import Derived.Test.YtjklefkkdaelnaaDoorPInt
namespace Go.Proofs.YtjklefkkdaelnaaDoor
set_option linter.unusedVariables false
set_option linter.unusedSimpArgs false
open Go.RowKit
set_option maxRecDepth 100000 in
set_option maxHeartbeats 2000000 in
theorem specParseInt_any (s : ByteArray) (w : World) (hs : s.size ≤ 1048576) : Calls Tryd.prog 31 #[.string s] w fun e w' => e = .returned (.tuple #[.int .i64 (piV s), .bool (piOk s)]) ∧ Below w.heap.size w w' := by
  by_cases hp : 0 < s.size
  case neg =>
    have := empty_of hp
    subst this
    have HK : piOk ⟨#[]⟩ = false := pi_not1 rfl
    rw [pi_no HK, HK]
    clear HK hp
    go_enter Tryd.func31, Tryd.ntmps31
    go_wp2_with fail
    refine (specIsDigits_any ⟨#[]⟩ _ hs).mono ?_
    rintro e W1 ⟨rfl, b1⟩
    rw [show isDigits ⟨#[]⟩ = false from rfl]
    go_wp2
    go_ret2
    exact ⟨rfl, b1⟩
  have hpos : decide ((0 : Int) < (s.size : Int)) = true := decide_eq_true (by omega)
  have hst : (s.extract 1 s.size).size ≤ 1048576 := by rw [tail_size]; omega
  by_cases h0 : s[0] = 45
  case pos =>
    obtain ⟨hneg, hdig⟩ := pbNeg_yes hp h0
    have h0' : ((s[0].toNat : Int) == 45) = true := by rw [h0]; rfl
    clear h0
    obtain ⟨T, hTT⟩ : ∃ T, T = s.extract 1 s.size := ⟨_, rfl⟩
    rw [← hTT] at hdig hst
    have HTT := Lib.hid hTT
    clear hTT
    by_cases hd : isDigits T = true
    case neg =>
      have hd' := Bool.eq_false_iff.2 hd
      have HK : piOk s = false := pi_not1 (by rw [hdig]; exact hd')
      rw [pi_no HK, HK]
      clear HK hneg hdig hd
      go_enter Tryd.func31, Tryd.ntmps31
      go_wp2_with fail
      rw [← HTT.out]
      refine (specIsDigits_any T _ hst).mono ?_
      rintro e W1 ⟨rfl, b1⟩
      rw [hd']
      go_wp2
      go_ret2
      exact ⟨rfl, b1⟩
    by_cases h19 : T.size ≤ 19
    case neg =>
      have HK : piOk s = false := pi_not4 (by rw [hdig]; exact h19)
      rw [pi_no HK, HK]
      clear HK hneg hdig
      have h9' : decide ((19 : Int) < (T.size : Int)) = true := decide_eq_true (by omega)
      go_enter Tryd.func31, Tryd.ntmps31
      go_wp2_with fail
      rw [← HTT.out]
      refine (specIsDigits_any T _ hst).mono ?_
      rintro e W1 ⟨rfl, b1⟩
      rw [hd]
      go_wp2
      go_ret2
      exact ⟨rfl, b1⟩
    have h9' : decide ((19 : Int) < (T.size : Int)) = false := decide_eq_false (by omega)
    have HD := Lib.hid (isDigits_all hd).1
    have HN : Hid (piN s = -((rd T.data.toList : Nat) : Int)) := by unfold Hid piN; rw [hneg, hdig]; rfl
    have HDG : Hid (isDigits (pbDig s) = true) := by rw [hdig]; exact hd
    clear hneg hdig
    go_enter Tryd.func31, Tryd.ntmps31
    go_wp2_with fail
    rw [← HTT.out]
    refine (specIsDigits_any T _ hst).mono ?_
    rintro e W1 ⟨rfl, b1⟩
    rw [hd]
    have HB1 := Lib.hid b1
    clear b1
    go_wp2
    go_loop [6, 7] (fun n i => ∃ k : Nat, k ≤ T.size ∧ i = .int .i64 k ∧ n = .int .i64 (-((rd (T.data.toList.take k) : Nat) : Int)) ∧ rd (T.data.toList.take k) ≤ 9223372036854775808) (fun _ i => T.size - (intOf i).toNat)
    case atStart => exact ⟨0, Nat.zero_le _, rfl, rfl, by rw [List.take_zero, rd_nil]; omega⟩
    case round =>
      obtain ⟨k, hk, rfl, rfl, hq⟩ := hrel
      by_cases hlt : k < T.size
      · have hst := mid_step (l := T.data.toList) (f := 0) (k := k) (Nat.zero_le _) (by simpa using hlt)
        have hby : T.data.toList[k]'(by simpa using hlt) = T[k] := rfl
        have hdg := digC_iff.1 (List.all_eq_true.1 HD.out _ (bytes_mem T k hlt))
        rw [hby, List.drop_zero, List.drop_zero] at hst
        have hle := rd_take_le T.data.toList (k + 1)
        rw [hst] at hle
        have HST := Lib.hid hst
        clear hst hby
        obtain ⟨q, hqq⟩ : ∃ q, q = rd (T.data.toList.take k) := ⟨_, rfl⟩
        rw [← hqq] at hq hle ⊢
        have HQ := Lib.hid hqq
        clear hqq
        have hcz : (-9223372036854775808 + ((T[k].toNat : Int) - 48)).tdiv 10 = -(((9223372036854775808 - (T[k].toNat - 48)) / 10 : Nat) : Int) := by rw [← tdiv_neg10]; congr 1; omega
        have HCZ := Lib.hid hcz
        clear hcz
        by_cases hov : 10 * q + (T[k].toNat - 48) ≤ 9223372036854775808
        · have hcm : decide (-(q : Int) < (-9223372036854775808 + ((T[k].toNat : Int) - 48)).tdiv 10) = false := by rw [HCZ.out]; exact decide_eq_false (by omega)
          go_wp2
          go_round
          case rel => exact ⟨k + 1, by omega, by go_num, by rw [HST.out, ← HQ.out]; congr 1; omega, by rw [HST.out, ← HQ.out]; exact hov⟩
          case measure => simp [intOf]; omega
        · have hcm : decide (-(q : Int) < (-9223372036854775808 + ((T[k].toNat : Int) - 48)).tdiv 10) = true := by rw [HCZ.out]; exact decide_eq_true (by omega)
          go_wp2
          go_ret2
          have HK : piOk s = false := pi_not2 (by rw [HN.out]; unfold In64; omega)
          rw [pi_no HK, HK]
          exact ⟨rfl, HB1.out⟩
      · have hkT : k = T.size := by omega
        have hrd : rd (T.data.toList.take k) = rd T.data.toList := by rw [hkT, List.take_of_length_le (by simp)]
        rw [hrd] at hq ⊢
        obtain ⟨q, hqq⟩ : ∃ q, q = rd T.data.toList := ⟨_, rfl⟩
        have HN2 := Lib.hid HN.out
        rw [← hqq] at hq HN2 ⊢
        clear hrd hqq
        have hin : In64 (-(q : Int)) := by unfold In64; omega
        go_wp2_with fail
        refine (specFormatInt_any (-(q : Int)) _ hin).mono ?_
        rintro e W3 ⟨rfl, b3⟩
        have HB3 := Lib.hid (bstep HB1.out b3)
        clear b3
        have HI := Lib.hid hin
        clear hin
        by_cases he : itoaB (-(q : Int)) = s
        · have HK : Hid (piOk s = true ∧ piN s = (-(q : Int))) := ⟨pi_mk HDG.out (by rw [HN2.out]; exact HI.out) (by rw [HN2.out]; exact he), HN2.out⟩
          rw [he]
          clear he
          go_wp2
          go_ret2
          rw [pi_yes HK.out.1, HK.out.1, HK.out.2]
          exact ⟨rfl, HB3.out⟩
        · have HK : Hid (piOk s = false) := pi_not3 (by rw [HN2.out]; exact he)
          obtain ⟨u, hu⟩ : ∃ u, u = itoaB (-(q : Int)) := ⟨_, rfl⟩
          rw [← hu] at he ⊢
          have hne2 := str_ne he
          clear hu
          go_wp2
          go_ret2
          rw [pi_no HK.out, HK.out]
          exact ⟨rfl, HB3.out⟩
  obtain ⟨hneg, hdig⟩ := pbNeg_no hp h0
  have h0' : ((s[0].toNat : Int) == 45) = false := beq_eq_false_iff_ne.2 (fun e => h0 (UInt8.toNat_inj.1 (by have h45 : (45 : UInt8).toNat = 45 := rfl; omega)))
  clear h0
  by_cases hd : isDigits s = true
  case neg =>
    have hd' := Bool.eq_false_iff.2 hd
    have HK : piOk s = false := pi_not1 (by rw [hdig]; exact hd')
    rw [pi_no HK, HK]
    clear HK hneg hdig hd
    go_enter Tryd.func31, Tryd.ntmps31
    go_wp2_with fail
    refine (specIsDigits_any s _ hs).mono ?_
    rintro e W1 ⟨rfl, b1⟩
    rw [hd']
    go_wp2
    go_ret2
    exact ⟨rfl, b1⟩
  by_cases h19 : s.size ≤ 19
  case neg =>
    have HK : piOk s = false := pi_not4 (by rw [hdig]; exact h19)
    rw [pi_no HK, HK]
    clear HK hneg hdig
    have h9' : decide ((19 : Int) < (s.size : Int)) = true := decide_eq_true (by omega)
    go_enter Tryd.func31, Tryd.ntmps31
    go_wp2_with fail
    refine (specIsDigits_any s _ hs).mono ?_
    rintro e W1 ⟨rfl, b1⟩
    rw [hd]
    go_wp2
    go_ret2
    exact ⟨rfl, b1⟩
  have h9' : decide ((19 : Int) < (s.size : Int)) = false := decide_eq_false (by omega)
  have HD := Lib.hid (isDigits_all hd).1
  have HN : Hid (piN s = ((rd s.data.toList : Nat) : Int)) := by unfold Hid piN; rw [hneg, hdig]; rfl
  have HDG : Hid (isDigits (pbDig s) = true) := by rw [hdig]; exact hd
  clear hneg hdig
  go_enter Tryd.func31, Tryd.ntmps31
  go_wp2_with fail
  refine (specIsDigits_any s _ hs).mono ?_
  rintro e W1 ⟨rfl, b1⟩
  rw [hd]
  have HB1 := Lib.hid b1
  clear b1
  go_wp2
  go_loop [6, 7] (fun n i => ∃ k : Nat, k ≤ s.size ∧ i = .int .i64 k ∧ n = .int .i64 (-((rd (s.data.toList.take k) : Nat) : Int)) ∧ rd (s.data.toList.take k) ≤ 9223372036854775808) (fun _ i => s.size - (intOf i).toNat)
  case atStart => exact ⟨0, Nat.zero_le _, rfl, rfl, by rw [List.take_zero, rd_nil]; omega⟩
  case round =>
    obtain ⟨k, hk, rfl, rfl, hq⟩ := hrel
    by_cases hlt : k < s.size
    · have hst := mid_step (l := s.data.toList) (f := 0) (k := k) (Nat.zero_le _) (by simpa using hlt)
      have hby : s.data.toList[k]'(by simpa using hlt) = s[k] := rfl
      have hdg := digC_iff.1 (List.all_eq_true.1 HD.out _ (bytes_mem s k hlt))
      rw [hby, List.drop_zero, List.drop_zero] at hst
      have hle := rd_take_le s.data.toList (k + 1)
      rw [hst] at hle
      have HST := Lib.hid hst
      clear hst hby
      obtain ⟨q, hqq⟩ : ∃ q, q = rd (s.data.toList.take k) := ⟨_, rfl⟩
      rw [← hqq] at hq hle ⊢
      have HQ := Lib.hid hqq
      clear hqq
      have hcz : (-9223372036854775808 + ((s[k].toNat : Int) - 48)).tdiv 10 = -(((9223372036854775808 - (s[k].toNat - 48)) / 10 : Nat) : Int) := by rw [← tdiv_neg10]; congr 1; omega
      have HCZ := Lib.hid hcz
      clear hcz
      by_cases hov : 10 * q + (s[k].toNat - 48) ≤ 9223372036854775808
      · have hcm : decide (-(q : Int) < (-9223372036854775808 + ((s[k].toNat : Int) - 48)).tdiv 10) = false := by rw [HCZ.out]; exact decide_eq_false (by omega)
        go_wp2
        go_round
        case rel => exact ⟨k + 1, by omega, by go_num, by rw [HST.out, ← HQ.out]; congr 1; omega, by rw [HST.out, ← HQ.out]; exact hov⟩
        case measure => simp [intOf]; omega
      · have hcm : decide (-(q : Int) < (-9223372036854775808 + ((s[k].toNat : Int) - 48)).tdiv 10) = true := by rw [HCZ.out]; exact decide_eq_true (by omega)
        go_wp2
        go_ret2
        have HK : piOk s = false := pi_not2 (by rw [HN.out]; unfold In64; omega)
        rw [pi_no HK, HK]
        exact ⟨rfl, HB1.out⟩
    · have hkT : k = s.size := by omega
      have hrd : rd (s.data.toList.take k) = rd s.data.toList := by rw [hkT, List.take_of_length_le (by simp)]
      rw [hrd] at hq ⊢
      obtain ⟨q, hqq⟩ : ∃ q, q = rd s.data.toList := ⟨_, rfl⟩
      have HN2 := Lib.hid HN.out
      rw [← hqq] at hq HN2 ⊢
      clear hrd hqq
      by_cases hmin : q = 9223372036854775808
      · have hm' : (-(q : Int) == -9223372036854775808) = true := beq_iff_eq.2 (by omega)
        clear hmin
        go_wp2
        go_ret2
        have HK : piOk s = false := pi_not2 (by rw [HN2.out]; unfold In64; have := beq_iff_eq.1 hm'; omega)
        rw [pi_no HK, HK]
        exact ⟨rfl, HB1.out⟩
      have hm' : (-(q : Int) == -9223372036854775808) = false := beq_eq_false_iff_ne.2 (by omega)
      have HW : Hid (wrap64 (-(-(q : Int))) = q) := by unfold Hid wrap64; omega
      have hq63 : q ≤ 9223372036854775807 := by omega
      clear hmin
      have hin : In64 (q : Int) := by unfold In64; omega
      go_wp2_with fail
      try rw [HW.out]
      refine (specFormatInt_any (q : Int) _ hin).mono ?_
      rintro e W3 ⟨rfl, b3⟩
      have HB3 := Lib.hid (bstep HB1.out b3)
      clear b3
      have HI := Lib.hid hin
      clear hin
      by_cases he : itoaB (q : Int) = s
      · have HK : Hid (piOk s = true ∧ piN s = (q : Int)) := ⟨pi_mk HDG.out (by rw [HN2.out]; exact HI.out) (by rw [HN2.out]; exact he), HN2.out⟩
        rw [he]
        clear he
        go_wp2
        go_ret2
        rw [pi_yes HK.out.1, HK.out.1, HK.out.2]
        exact ⟨rfl, HB3.out⟩
      · have HK : Hid (piOk s = false) := pi_not3 (by rw [HN2.out]; exact he)
        obtain ⟨u, hu⟩ : ∃ u, u = itoaB (q : Int) := ⟨_, rfl⟩
        rw [← hu] at he ⊢
        have hne2 := str_ne he
        clear hu
        go_wp2
        go_ret2
        rw [pi_no HK.out, HK.out]
        exact ⟨rfl, HB3.out⟩
end Go.Proofs.YtjklefkkdaelnaaDoor
