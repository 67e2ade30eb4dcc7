/- ParseNat: the program. -/
import Derived.Test.YtehhpkeabckdaaaGreatDoorParS
import Derived.Test.YtehhpkeabckdaaaGreatDoorFmtI
import Derived.Lib.ConvBytes
import Derived.Lib.AtoiErrMem
namespace Go.Proofs.YtehhpkeabckdaaaGreatDoor
set_option linter.unusedVariables false
set_option linter.unusedSimpArgs false
open Go.RowKit
theorem ext_list (s : ByteArray) (f e : Nat) (he : e ≤ s.size) : (s.extract f e).data.toList = (s.data.toList.take e).drop f := by
  rw [ByteArray.data_extract, Array.toList_extract, List.extract_eq_take_drop, List.drop_take]
theorem take_step {l : List UInt8} {k : Nat} (hk : k < l.length) : rd (l.take (k + 1)) = 10 * rd (l.take k) + (l[k].toNat - 48) := by
  rw [List.take_succ_eq_append_getElem hk, rd_snoc]
theorem conv_mid (w : World) (s : ByteArray) (f e : Nat) (he : e ≤ s.size) (hd : allDig s.data.toList = true) : ∃ (W : World) (c : Nat) (t : List UInt8),
    Hid (Sem.run Tryz.prog (convert 9 22 (.string (s.extract f e))) w = .ok (.slice (some ⟨w.heap.size, 0, none⟩) t.length c) W) ∧ Hid (Below w.heap.size w W) ∧ Hid (t = (s.data.toList.take e).drop f) ∧ allDig t = true ∧ Hid (∀ j (h : j < t.length), W.cell? ⟨w.heap.size, j, none⟩ = some (.int .u8 (t[j].toNat : Int))) := by
  have h1 := ext_list s f e he
  have h2 : (s.extract f e).size = ((s.data.toList.take e).drop f).length := by rw [← h1, Array.length_toList]; rfl
  refine ⟨Lib.bytesWorld w 5 (s.extract f e), grownCap w ((s.data.toList.take e).drop f).length 0 5, (s.data.toList.take e).drop f, ?_, Lib.bytesWorld_below _ _ _, rfl, mid_dig hd f e, ?_⟩
  · have := Lib.run_convert_string_bytes (P := Tryz.prog) w 9 22 5 (s.extract f e) Tryz.underlying9 Tryz.underlying22 Tryz.underlying5
    rw [h2] at this
    exact this
  · intro j h
    rw [Lib.bytesWorld_cell w _ _ j (by rw [h2]; exact h), h1, List.getD_eq_getElem?_getD, List.getElem?_eq_getElem h]; rfl
theorem dig_mem {t : List UInt8} (h : allDig t = true) {j : Nat} (hj : j < t.length) : 48 ≤ t[j].toNat ∧ t[j].toNat ≤ 57 := digC_iff.1 (List.all_eq_true.1 h _ (List.getElem_mem hj))
set_option maxRecDepth 100000 in
set_option maxHeartbeats 4000000 in
theorem implParseNat_any (s : ByteArray) (w : World) (hs : s.size ≤ 1048576) (htab : Tab w) : Calls Tryz.prog 20 #[.string s] w fun e w' => ∃ p c, e = .returned (.tuple #[.slice p (pnD s).length c, .bool (pnOk s)]) ∧ OwnI w' w.heap.size w'.heap.size (.slice p (pnD s).length c) (pnD s) ∧ Below w.heap.size w w' := by
  have HT := Lib.hid htab
  clear htab
  by_cases hd : isDigits s = true
  case neg =>
    have hd' := Bool.eq_false_iff.2 hd
    rw [pnD_no (pnOk_dig hd'), pnOk_dig hd']
    go_enter Tryz.func20, Tryz.ntmps20
    go_wp2_with fail
    refine (implIsDigits_any s _ hs).mono ?_
    rintro e W1 ⟨rfl, b1⟩
    rw [hd']
    go_wp2
    go_ret2
    exact ⟨none, 0, rfl, (own_nil _ _).toI, b1⟩
  by_cases h540 : s.size ≤ 540
  case neg =>
    rw [pnD_no (pnOk_long h540), pnOk_long h540]
    have h5 : decide ((540 : Int) < (s.size : Int)) = true := decide_eq_true (by omega)
    go_enter Tryz.func20, Tryz.ntmps20
    go_wp2_with fail
    refine (implIsDigits_any s _ hs).mono ?_
    rintro e W1 ⟨rfl, b1⟩
    rw [hd]
    go_wp2
    go_ret2
    exact ⟨none, 0, rfl, (own_nil _ _).toI, b1⟩
  have h5 : decide ((540 : Int) < (s.size : Int)) = false := decide_eq_false (by omega)
  have HD := Lib.hid (isDigits_all hd).1
  have HF := Lib.hid (fmt_rd hd h540)
  have H60 := Lib.hid (rd_540 hd h540)
  go_enter Tryz.func20, Tryz.ntmps20
  go_wp2_with fail
  refine (implIsDigits_any s _ hs).mono ?_
  rintro e W1 ⟨rfl, b1⟩
  rw [hd]
  have HB1 := Lib.hid b1
  clear b1
  go_wp2
  go_loopw [4, 5] (fun o z wr => ∃ (e : Nat) (zi : Int) (xs : List Int), z = .int .i64 zi ∧ Hid (PInv s.data.toList e zi xs) ∧ Hid (Own 3 wr w.heap.size o xs) ∧ Hid (Below w.heap.size w wr)) (fun _ z _ => (intOf z).toNat)
  case atStart => exact ⟨s.size, s.size, [], rfl, by have := PInv.start s.data.toList; simpa [Hid] using this, (own_empty W1).rebase HB1.out.size, HB1.out.alloc HB1.out.size _⟩
  case round =>
    obtain ⟨e, zi, xs, rfl, HP, HO, HB⟩ := hrel
    by_cases hp : 0 < zi
    case neg =>
      have he0 : e = 0 := by rcases HP.out.hz with h | h <;> omega
      subst he0
      obtain ⟨p, c, rfl, hI⟩ := HO.out.out
      have HI := Lib.hid hI
      have hlx : xs.length ≤ 1048576 := by have := HP.out.cap; have : s.data.toList.length = s.size := (by simp); omega
      have hzn : decide (0 < zi) = false := decide_eq_false (by omega)
      clear hI
      go_wp2_with fail
      refine (trimmed_any p c xs _ HI.out.ints hlx HP.out.rng).mono ?_
      rintro e w' ⟨⟨m, hm, rfl, htk⟩, rfl⟩
      have HT2 := Lib.hid htk
      clear htk
      have h2 := HI.out.take hm
      have h3 := congrArg List.length HT2.out
      rw [List.length_take, Nat.min_eq_left hm, HP.out.done] at h3
      rw [HT2.out, HP.out.done] at h2
      have H2 := Lib.hid h2
      clear h2
      subst h3
      go_wp2_with fail
      refine (implFormatNat_any p c (digs (rd s.data.toList)) _ H2.out.ints (by have := H60.out; omega) (tabB HT.out HB.out)).mono ?_
      rintro e W3 ⟨rfl, b3⟩
      have HB3 := Lib.hid (bstep HB.out b3)
      have H3 := Lib.hid ((H2.out.below b3).mono (Nat.le_refl _) b3.size)
      clear b3
      by_cases hk : pnOk s = true
      · rw [HF.out.2 hk]
        have HY : Hid (pnD s = digs (rd s.data.toList) ∧ pnOk s = true) := ⟨pnD_yes hk, hk⟩
        clear hk
        go_wp2
        go_ret2
        rw [HY.out.1, HY.out.2]
        exact ⟨p, c, rfl, H3.out, HB3.out⟩
      · obtain ⟨u, hu⟩ : ∃ u, u = fmtNat (digs (rd s.data.toList)) := ⟨_, rfl⟩
        have hne : ¬ u = s := fun e => hk (HF.out.1 (hu ▸ e))
        have hne2 := str_ne hne
        rw [← hu]
        have hk' := Bool.eq_false_iff.2 hk
        have HY : Hid (pnD s = [] ∧ pnOk s = false) := ⟨pnD_no hk', hk'⟩
        clear hk hk' hu
        go_wp2
        go_ret2
        rw [HY.out.1, HY.out.2]
        exact ⟨none, 0, rfl, (own_nil _ _).toI, HB3.out⟩
    obtain ⟨rfl, he⟩ : zi = (e : Int) ∧ 0 < e := by rcases HP.out.hz with h | h <;> omega
    have hes : e ≤ s.size := by have := HP.out.he; simpa using this
    clear hp
    by_cases h9 : (e : Int) - 9 < 0
    · have hmx : max (0 : Int) ((e : Int) - 9) = 0 := by omega
      have h0e : decide ((0 : Int) < (e : Int)) = true := decide_eq_true (by omega)
      obtain ⟨W2, c2, t, CV, CB, CT, hdt, CC⟩ := conv_mid wr s 0 e hes HD.out
      have hcv := CV.out
      have htl : t.length ≤ 9 := by rw [CT.out, List.length_drop, List.length_take]; omega
      have HPS : Hid (PInv s.data.toList (e - 9) ((e : Int) - 9) (xs ++ [((rd t : Nat) : Int)])) := by have := HP.out.step HD.out he; rw [CT.out]; rw [show e - 9 = 0 by omega] at this ⊢; exact this
      have hlx : xs.length + 1 ≤ 16777216 := by have := HP.out.cap; have : s.data.toList.length = s.size := (by simp); omega
      have HO2 := Lib.hid (HO.out.below CB.out)
      have HB2 := Lib.hid (bstep HB.out CB.out)
      have hc9 : rd t ≤ 999999999 := by have := rd_le hdt htl; omega
      go_wp2
      go_loop [6, 32] (fun n i => ∃ k : Nat, k ≤ t.length ∧ i = .int .i64 k ∧ n = .int .i64 ((rd (t.take k) : Nat) : Int)) (fun _ i => t.length - (intOf i).toNat)
      case atStart => exact ⟨0, Nat.zero_le _, rfl, rfl⟩
      case round =>
        obtain ⟨k, hk, rfl, rfl⟩ := hrel
        by_cases hlt : k < t.length
        · have hcc := CC.out k hlt
          have hdg := dig_mem hdt hlt
          have hq : rd (t.take k) ≤ 99999999 := by have := rd_le (allDig_sub (m := t.take k) hdt (fun x hx => List.mem_of_mem_take hx)) (k := 8) (by rw [List.length_take]; omega); omega
          have HST := Lib.hid (take_step hlt)
          obtain ⟨q, hqq⟩ : ∃ q, q = rd (t.take k) := ⟨_, rfl⟩
          rw [← hqq] at hq ⊢
          have HQ := Lib.hid hqq
          clear hqq
          go_wp2
          go_round
          case rel => exact ⟨k + 1, by omega, by go_num, by rw [HST.out, ← HQ.out]; congr 1; omega⟩
          case measure => simp [intOf]; omega
        · obtain rfl : k = t.length := by omega
          rw [List.take_length]
          obtain ⟨q, hqq⟩ : ∃ q, q = rd t := ⟨_, rfl⟩
          rw [← hqq] at hc9 HPS ⊢
          clear hqq
          go_wp2_with (at_builtin; go_must (refine append_int HO2.out (n := (q : Int)) (by unfold In64; omega) hlx HB2.out.size rfl _ _ rfl rfl rfl ?_); intro v' w1 hown1 hb1 _)
          have HO1 := Lib.hid hown1
          have HB1 := Lib.hid (HB2.out.trans hb1)
          clear hown1 hb1
          go_wp2
          go_roundw
          case rel => exact ⟨e - 9, (e : Int) - 9, _, rfl, HPS.out, HO1.out, HB1.out⟩
          case measure => simp [intOf]; omega
    · have hmx : max (0 : Int) ((e : Int) - 9) = (e : Int) - 9 := by omega
      have h0e : decide ((0 : Int) < (e : Int)) = true := decide_eq_true (by omega)
      obtain ⟨W2, c2, t, CV, CB, CT, hdt, CC⟩ := conv_mid wr s (e - 9) e hes HD.out
      have hcv := CV.out
      have htl : t.length ≤ 9 := by rw [CT.out, List.length_drop, List.length_take]; omega
      have HPS : Hid (PInv s.data.toList (e - 9) ((e : Int) - 9) (xs ++ [((rd t : Nat) : Int)])) := by have := HP.out.step HD.out he; rw [CT.out]; exact this
      have hlx : xs.length + 1 ≤ 16777216 := by have := HP.out.cap; have : s.data.toList.length = s.size := (by simp); omega
      have HO2 := Lib.hid (HO.out.below CB.out)
      have HB2 := Lib.hid (bstep HB.out CB.out)
      have hc9 : rd t ≤ 999999999 := by have := rd_le hdt htl; omega
      go_wp2
      go_loop [6, 32] (fun n i => ∃ k : Nat, k ≤ t.length ∧ i = .int .i64 k ∧ n = .int .i64 ((rd (t.take k) : Nat) : Int)) (fun _ i => t.length - (intOf i).toNat)
      case atStart => exact ⟨0, Nat.zero_le _, rfl, rfl⟩
      case round =>
        obtain ⟨k, hk, rfl, rfl⟩ := hrel
        by_cases hlt : k < t.length
        · have hcc := CC.out k hlt
          have hdg := dig_mem hdt hlt
          have hq : rd (t.take k) ≤ 99999999 := by have := rd_le (allDig_sub (m := t.take k) hdt (fun x hx => List.mem_of_mem_take hx)) (k := 8) (by rw [List.length_take]; omega); omega
          have HST := Lib.hid (take_step hlt)
          obtain ⟨q, hqq⟩ : ∃ q, q = rd (t.take k) := ⟨_, rfl⟩
          rw [← hqq] at hq ⊢
          have HQ := Lib.hid hqq
          clear hqq
          go_wp2
          go_round
          case rel => exact ⟨k + 1, by omega, by go_num, by rw [HST.out, ← HQ.out]; congr 1; omega⟩
          case measure => simp [intOf]; omega
        · obtain rfl : k = t.length := by omega
          rw [List.take_length]
          obtain ⟨q, hqq⟩ : ∃ q, q = rd t := ⟨_, rfl⟩
          rw [← hqq] at hc9 HPS ⊢
          clear hqq
          go_wp2_with (at_builtin; go_must (refine append_int HO2.out (n := (q : Int)) (by unfold In64; omega) hlx HB2.out.size rfl _ _ rfl rfl rfl ?_); intro v' w1 hown1 hb1 _)
          have HO1 := Lib.hid hown1
          have HB1 := Lib.hid (HB2.out.trans hb1)
          clear hown1 hb1
          go_wp2
          go_roundw
          case rel => exact ⟨e - 9, (e : Int) - 9, _, rfl, HPS.out, HO1.out, HB1.out⟩
          case measure => simp [intOf]; omega
end Go.Proofs.YtehhpkeabckdaaaGreatDoor
