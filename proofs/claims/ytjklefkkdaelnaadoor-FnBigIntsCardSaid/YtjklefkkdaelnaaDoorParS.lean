/- ParseNat: the limbs of a numeral. -/
import Derived.Test.YtjklefkkdaelnaaDoorFmtW
import Derived.Test.YtjklefkkdaelnaaDoorK2
import Derived.Test.YtjklefkkdaelnaaDoorK1
namespace Go.Proofs.YtjklefkkdaelnaaDoor
set_option linter.unusedVariables false
set_option linter.unusedSimpArgs false
open Go.RowKit
theorem str_ne {u s : ByteArray} (h : ¬ u = s) : (u.toList == s.toList) = false := by
  rw [ByteArray.toList_eq, ByteArray.toList_eq]
  exact beq_eq_false_iff_ne.2 (fun e => h (Go.WideShapes.bytes_inj e))
def pnOk (s : ByteArray) : Bool := isDigits s && decide (s.size ≤ 540) && (decide (s.size ≤ 1) || decide (s.data.toList.head? ≠ some 48))
def pnD (s : ByteArray) : List Int := if pnOk s then digs (rd s.data.toList) else []
theorem allDig_sub {l m : List UInt8} (h : allDig l = true) (hs : ∀ x ∈ m, x ∈ l) : allDig m = true := by
  unfold allDig at *
  rw [List.all_eq_true] at *
  exact fun x hx => h x (hs x hx)
theorem rd_le {l : List UInt8} (h : allDig l = true) {k : Nat} (hk : l.length ≤ k) : rd l < 10 ^ k := Nat.lt_of_lt_of_le (rd_lt h) (Nat.pow_le_pow_right (by decide) hk)
theorem mid_dig {l : List UInt8} (h : allDig l = true) (f k : Nat) : allDig ((l.take k).drop f) = true := allDig_sub h fun x hx => List.mem_of_mem_take (List.mem_of_mem_drop hx)
theorem mid_step {l : List UInt8} {f k : Nat} (hf : f ≤ k) (hk : k < l.length) : rd ((l.take (k + 1)).drop f) = 10 * rd ((l.take k).drop f) + (l[k].toNat - 48) := by
  rw [List.take_succ_eq_append_getElem hk, List.drop_append_of_le_length (by rw [List.length_take]; omega), rd_snoc]
theorem mid_none (l : List UInt8) (k : Nat) : rd ((l.take k).drop k) = 0 := by
  rw [List.drop_of_length_le (by rw [List.length_take]; omega)]; rfl
theorem mid_eight {l : List UInt8} (h : allDig l = true) {f k : Nat} (hk : k ≤ f + 8) : rd ((l.take k).drop f) ≤ 99999999 := by
  have := rd_le (mid_dig h f k) (k := 8) (by rw [List.length_drop, List.length_take]; omega)
  omega
theorem mid_nine {l : List UInt8} (h : allDig l = true) {f k : Nat} (hk : k ≤ f + 9) : rd ((l.take k).drop f) ≤ 999999999 := by
  have := rd_le (mid_dig h f k) (k := 9) (by rw [List.length_drop, List.length_take]; omega)
  omega
/-- between two rounds: the bytes from place e on are told by the limbs xs -/
structure PInv (l : List UInt8) (e : Nat) (z : Int) (xs : List Int) : Prop where
  he : e ≤ l.length
  hz : z = e ∨ (e = 0 ∧ z ≤ 0)
  rng : Rng xs
  hv : val xs = rd (l.drop e)
  hl : e = 0 ∨ l.length = e + 9 * xs.length
  cap : 9 * xs.length ≤ l.length + 8
theorem PInv.start (l : List UInt8) : PInv l l.length l.length [] := ⟨Nat.le_refl _, .inl rfl, Rng.nil, by rw [List.drop_length]; rfl, .inr (by simp), by simp⟩
theorem PInv.step {l : List UInt8} {e : Nat} {z : Int} {xs : List Int} (h : PInv l e z xs) (hd : allDig l = true) (hp : 0 < e) : PInv l (e - 9) (z - 9) (xs ++ [((rd ((l.take e).drop (e - 9)) : Nat) : Int)]) := by
  have h1 := h.he
  have h2 := h.hl
  have h3 := mid_nine hd (f := e - 9) (k := e) (by omega)
  refine ⟨by omega, ?_, h.rng.app (Rng.cons ⟨by omega, by omega⟩ Rng.nil), ?_, ?_, ?_⟩
  · rcases h.hz with hz | ⟨h0, _⟩ <;> omega
  · rw [val_append, h.hv]
    have e1 : l.drop (e - 9) = (l.take e).drop (e - 9) ++ l.drop e := by
      conv => lhs; rw [← List.take_append_drop e l]
      rw [List.drop_append_of_le_length (by rw [List.length_take]; omega)]
    rw [e1, rd_append, List.length_drop, pw_ten, show l.length - e = 9 * xs.length by omega]
    simp only [val, Int.toNat_natCast, Nat.mul_zero, Nat.add_zero]
    rw [Nat.mul_comm, Nat.add_comm]
  · rw [List.length_append, List.length_singleton]; omega
  · rw [List.length_append, List.length_singleton]; omega
theorem PInv.done {l : List UInt8} {xs : List Int} {z : Int} (h : PInv l 0 z xs) : val xs = rd l := by rw [h.hv, List.drop_zero]
theorem isDigits_all {s : ByteArray} (h : isDigits s = true) : allDig s.data.toList = true ∧ 0 < s.size := by
  unfold isDigits at h
  simpa using h
theorem head_byte {s : ByteArray} (h : 0 < s.size) : s.data.toList.head? = some s[0] := by
  rw [List.head?_eq_getElem?, List.getElem?_eq_getElem (by simpa using h)]; rfl
theorem pnOk_dig {s : ByteArray} (h : isDigits s = false) : pnOk s = false := by unfold pnOk; rw [h]; rfl
theorem pnOk_long {s : ByteArray} (h : ¬ s.size ≤ 540) : pnOk s = false := by unfold pnOk; rw [decide_eq_false h]; simp
theorem pnOk_zero {s : ByteArray} (h : 1 < s.size) (h0 : s[0] = 48) : pnOk s = false := by
  unfold pnOk
  rw [head_byte (by omega), h0, decide_eq_false (show ¬ s.size ≤ 1 by omega)]
  simp
theorem pnOk_one {s : ByteArray} (hd : isDigits s = true) (h : ¬ 1 < s.size) : pnOk s = true := by
  unfold pnOk
  rw [hd, decide_eq_true (show s.size ≤ 540 by omega), decide_eq_true (show s.size ≤ 1 by omega)]; rfl
theorem pnOk_yes {s : ByteArray} (hd : isDigits s = true) (h : s.size ≤ 540) (h1 : 1 < s.size) (h0 : ¬ s[0] = 48) : pnOk s = true := by
  unfold pnOk
  rw [hd, decide_eq_true h, head_byte (by omega), decide_eq_true (show (some s[0] : Option UInt8) ≠ some 48 by simpa using h0)]; simp
theorem pnD_yes {s : ByteArray} (h : pnOk s = true) : pnD s = digs (rd s.data.toList) := if_pos h
theorem pnD_no {s : ByteArray} (h : pnOk s = false) : pnD s = [] := if_neg (by rw [h]; exact Bool.false_ne_true)
theorem rd_len {l : List UInt8} (hd : allDig l = true) {k : Nat} (h : l.length ≤ 9 * k) : (digs (rd l)).length ≤ k := by
  apply digs_len_le
  rw [pw_ten]
  exact rd_le hd h
theorem rd_540 {s : ByteArray} (hd : isDigits s = true) (h : s.size ≤ 540) : (digs (rd s.data.toList)).length ≤ 60 := rd_len (isDigits_all hd).1 (by simpa using h)
theorem pnOk_parts {s : ByteArray} (h : pnOk s = true) : isDigits s = true ∧ s.size ≤ 540 ∧ (s.size ≤ 1 ∨ s.data.toList.head? ≠ some 48) := by
  unfold pnOk at h
  simpa [and_assoc] using h
theorem pnD_ok (s : ByteArray) : natOkB (pnD s) = true := by
  cases h : pnOk s with
  | true => rw [pnD_yes h]; exact digs_ok (rd_540 (pnOk_parts h).1 (pnOk_parts h).2.1)
  | false => rw [pnD_no h]; rfl
theorem pnD_len (s : ByteArray) : (pnD s).length ≤ 60 := by
  cases h : pnOk s with
  | true => rw [pnD_yes h]; exact rd_540 (pnOk_parts h).1 (pnOk_parts h).2.1
  | false => rw [pnD_no h]; simp
/-- the text of what was read -/
theorem fmt_rd {s : ByteArray} (hd : isDigits s = true) (h : s.size ≤ 540) : fmtNat (digs (rd s.data.toList)) = s ↔ pnOk s = true := by
  have hl : 0 < s.data.toList.length := by simpa using (isDigits_all hd).2
  rw [fmtNat_ok (digs_ok (rd_540 hd h))]
  unfold dT
  rw [List.drop_zero, val_digs]
  constructor
  · intro e
    have e2 : Lib.decDigits (rd s.data.toList) = s.data.toList := by
      have := congrArg (fun b : ByteArray => b.data.toList) e
      simpa using this
    have := dec_rd_only e2
    unfold pnOk
    rw [hd, decide_eq_true h]
    rcases this with h1 | h1
    · rw [decide_eq_true (show s.size ≤ 1 by simpa using Nat.le_of_eq h1)]; simp
    · rw [decide_eq_true h1]; simp
  · intro hk
    obtain ⟨_, _, h3⟩ := pnOk_parts hk
    have e2 : Lib.decDigits (rd s.data.toList) = s.data.toList := by
      refine dec_rd_of (isDigits_all hd).1 (fun e => by rw [e] at hl; simp at hl) ?_
      rcases h3 with h3 | h3
      · left
        have : s.data.toList.length = s.size := by simp
        omega
      · exact .inr h3
    rw [e2]
set_option maxRecDepth 100000 in
set_option maxHeartbeats 4000000 in
theorem specParseNat_own (s : ByteArray) (w : World) (hs : s.size ≤ 1048576) : Calls Tryd.prog 22 #[.string s] w fun e w' => ∃ p c, e = .returned (.tuple #[.slice p (pnD s).length c, .bool (pnOk s)]) ∧ OwnI w' w.heap.size w'.heap.size (.slice p (pnD s).length c) (pnD s) ∧ Below w.heap.size w w' := by
  by_cases hd : isDigits s = true
  case neg =>
    have hd' := Bool.eq_false_iff.2 hd
    rw [pnD_no (pnOk_dig hd'), pnOk_dig hd']
    go_enter Tryd.func22, Tryd.ntmps22
    go_wp2_with fail
    refine (specIsDigits_any s _ hs).mono ?_
    rintro e W1 ⟨rfl, b1⟩
    rw [hd']
    go_wp2
    go_ret2
    exact ⟨none, 0, rfl, (own_nil _ _).toI, b1⟩
  by_cases h540 : s.size ≤ 540
  case neg =>
    rw [pnD_no (pnOk_long h540), pnOk_long h540]
    have h5 : decide ((540 : Int) < (s.size : Int)) = true := decide_eq_true (by omega)
    go_enter Tryd.func22, Tryd.ntmps22
    go_wp2_with fail
    refine (specIsDigits_any s _ hs).mono ?_
    rintro e W1 ⟨rfl, b1⟩
    rw [hd]
    go_wp2
    go_ret2
    exact ⟨none, 0, rfl, (own_nil _ _).toI, b1⟩
  have h5 : decide ((540 : Int) < (s.size : Int)) = false := decide_eq_false (by omega)
  have HD := Lib.hid (isDigits_all hd).1
  by_cases h1 : 1 < s.size
  case pos =>
    have hone : decide ((1 : Int) < (s.size : Int)) = true := decide_eq_true (by omega)
    by_cases h0 : s[0] = 48
    case pos =>
      rw [pnD_no (pnOk_zero h1 h0), pnOk_zero h1 h0]
      have h0' : ((s[0].toNat : Int) == 48) = true := by rw [h0]; rfl
      go_enter Tryd.func22, Tryd.ntmps22
      go_wp2_with fail
      refine (specIsDigits_any s _ hs).mono ?_
      rintro e W1 ⟨rfl, b1⟩
      rw [hd]
      go_wp2
      go_ret2
      exact ⟨none, 0, rfl, (own_nil _ _).toI, b1⟩
    have h0' : ((s[0].toNat : Int) == 48) = false := beq_eq_false_iff_ne.2 (fun e => h0 (UInt8.toNat_inj.1 (by have h48 : (48 : UInt8).toNat = 48 := rfl; omega)))
    have HY := Lib.hid (pnOk_yes hd h540 h1 h0)
    clear h0
    rw [pnD_yes HY.out, HY.out]
    go_enter Tryd.func22, Tryd.ntmps22
    go_wp2_with fail
    refine (specIsDigits_any s _ hs).mono ?_
    rintro e W1 ⟨rfl, b1⟩
    rw [hd]
    have HB1 := Lib.hid b1
    clear b1
    go_wp2
    go_loopw [4, 5] (fun o z wr => ∃ (e : Nat) (zi : Int) (xs : List Int), z = .int .i64 zi ∧ Hid (PInv s.data.toList e zi xs) ∧ Hid (Own 3 wr w.heap.size o xs) ∧ Hid (Below w.heap.size w wr)) (fun _ z _ => (intOf z).toNat)
    case atStart => exact ⟨s.size, s.size, [], rfl, by have := PInv.start s.data.toList; simpa [Hid] using this, (own_empty W1).rebase HB1.out.size, HB1.out.alloc HB1.out.size _⟩
    case round =>
      obtain ⟨e, zi, xs, rfl, HP, HO, HB⟩ := hrel
      by_cases hp : 0 < zi
      case neg =>
        have he0 : e = 0 := by rcases HP.out.hz with h | h <;> omega
        subst he0
        obtain ⟨p, c, rfl, hI⟩ := HO.out.out
        have HI := Lib.hid hI
        have hlx : xs.length ≤ 1048576 := by have := HP.out.cap; have : s.data.toList.length = s.size := (by simp); omega
        have hzn : decide (0 < zi) = false := decide_eq_false (by omega)
        clear hI
        go_wp2_with fail
        refine (l02Trim_any p c xs _ HI.out.ints hlx HP.out.rng).mono ?_
        rintro e w' ⟨⟨m, hm, rfl, htk⟩, rfl⟩
        have HT := Lib.hid htk
        clear htk
        go_wp2
        go_ret2
        have h2 := HI.out.take hm
        rw [HT.out, HP.out.done] at h2
        have h3 := congrArg List.length HT.out
        rw [List.length_take, Nat.min_eq_left hm, HP.out.done] at h3
        exact ⟨p, c, by rw [h3]; rfl, h2, HB.out⟩
      obtain ⟨rfl, he⟩ : zi = (e : Int) ∧ 0 < e := by rcases HP.out.hz with h | h <;> omega
      have hes : e ≤ s.size := by have := HP.out.he; simpa using this
      clear hp
      by_cases h9 : (e : Int) - 9 < 0
      · have h9' : decide ((e : Int) - 9 < 0) = true := decide_eq_true h9
        go_wp2
        go_loop [7, 8] (fun n i => ∃ k : Nat, 0 ≤ k ∧ k ≤ e ∧ i = .int .i64 k ∧ n = .int .i64 ((rd ((s.data.toList.take k).drop 0) : Nat) : Int)) (fun _ i => e - (intOf i).toNat)
        case atStart => exact ⟨0, Nat.le_refl _, by omega, rfl, by rw [mid_none]; rfl⟩
        case round =>
          obtain ⟨k, hfk, hke, rfl, rfl⟩ := hrel
          by_cases hlt : k < e
          · have hks : k < s.size := by omega
            have hq := mid_eight HD.out (f := 0) (k := k) (by omega)
            have hst := mid_step (l := s.data.toList) (f := 0) (k := k) (by omega) (by simpa using hks)
            have hby : s.data.toList[k]'(by simpa using hks) = s[k] := rfl
            have hdg := digC_iff.1 (List.all_eq_true.1 HD.out _ (bytes_mem s k hks))
            rw [hby] at hst
            have HST := Lib.hid hst
            clear hst hby
            obtain ⟨q, hqq⟩ : ∃ q, q = rd ((s.data.toList.take k).drop 0) := ⟨_, rfl⟩
            rw [← hqq] at hq ⊢
            have HQ := Lib.hid hqq
            clear hqq
            go_wp2
            go_round
            case rel => exact ⟨k + 1, by omega, by omega, by go_num, by rw [HST.out, ← HQ.out]; congr 1; omega⟩
            case measure => simp [intOf]; omega
          · obtain rfl : k = e := by omega
            have hc9 := mid_nine HD.out (f := 0) (k := k) (by omega)
            obtain ⟨q, hqq⟩ : ∃ q, q = rd ((s.data.toList.take k).drop 0) := ⟨_, rfl⟩
            rw [← hqq] at hc9 ⊢
            have HS : Hid (PInv s.data.toList (k - 9) ((k : Int) - 9) (xs ++ [(q : Int)])) := by have := HP.out.step HD.out he; rw [hqq]; rw [show k - 9 = 0 by omega] at this ⊢; exact this
            have HQ := Lib.hid hqq
            clear hqq
            have hlx : xs.length + 1 ≤ 16777216 := by have := HP.out.cap; have : s.data.toList.length = s.size := (by simp); omega
            go_wp2_with (at_builtin; go_must (refine append_int HO.out (n := (q : Int)) (by unfold In64; omega) hlx HB.out.size rfl _ _ rfl rfl rfl ?_); intro v' w1 hown1 hb1 _)
            have HO1 := Lib.hid hown1
            have HB1 := Lib.hid (HB.out.trans hb1)
            clear hown1 hb1
            go_wp2
            go_roundw
            case rel => exact ⟨k - 9, (k : Int) - 9, _, rfl, HS.out, HO1.out, HB1.out⟩
            case measure => simp [intOf]; omega
      · have h9' : decide ((e : Int) - 9 < 0) = false := decide_eq_false h9
        go_wp2
        go_loop [7, 8] (fun n i => ∃ k : Nat, (e - 9) ≤ k ∧ k ≤ e ∧ i = .int .i64 k ∧ n = .int .i64 ((rd ((s.data.toList.take k).drop (e - 9)) : Nat) : Int)) (fun _ i => e - (intOf i).toNat)
        case atStart => exact ⟨(e - 9), Nat.le_refl _, by omega, by go_num, by rw [mid_none]; rfl⟩
        case round =>
          obtain ⟨k, hfk, hke, rfl, rfl⟩ := hrel
          by_cases hlt : k < e
          · have hks : k < s.size := by omega
            have hq := mid_eight HD.out (f := (e - 9)) (k := k) (by omega)
            have hst := mid_step (l := s.data.toList) (f := (e - 9)) (k := k) (by omega) (by simpa using hks)
            have hby : s.data.toList[k]'(by simpa using hks) = s[k] := rfl
            have hdg := digC_iff.1 (List.all_eq_true.1 HD.out _ (bytes_mem s k hks))
            rw [hby] at hst
            have HST := Lib.hid hst
            clear hst hby
            obtain ⟨q, hqq⟩ : ∃ q, q = rd ((s.data.toList.take k).drop (e - 9)) := ⟨_, rfl⟩
            rw [← hqq] at hq ⊢
            have HQ := Lib.hid hqq
            clear hqq
            go_wp2
            go_round
            case rel => exact ⟨k + 1, by omega, by omega, by go_num, by rw [HST.out, ← HQ.out]; congr 1; omega⟩
            case measure => simp [intOf]; omega
          · obtain rfl : k = e := by omega
            have hc9 := mid_nine HD.out (f := (k - 9)) (k := k) (by omega)
            obtain ⟨q, hqq⟩ : ∃ q, q = rd ((s.data.toList.take k).drop (k - 9)) := ⟨_, rfl⟩
            rw [← hqq] at hc9 ⊢
            have HS : Hid (PInv s.data.toList (k - 9) ((k : Int) - 9) (xs ++ [(q : Int)])) := by have := HP.out.step HD.out he; rw [hqq]; exact this
            have HQ := Lib.hid hqq
            clear hqq
            have hlx : xs.length + 1 ≤ 16777216 := by have := HP.out.cap; have : s.data.toList.length = s.size := (by simp); omega
            go_wp2_with (at_builtin; go_must (refine append_int HO.out (n := (q : Int)) (by unfold In64; omega) hlx HB.out.size rfl _ _ rfl rfl rfl ?_); intro v' w1 hown1 hb1 _)
            have HO1 := Lib.hid hown1
            have HB1 := Lib.hid (HB.out.trans hb1)
            clear hown1 hb1
            go_wp2
            go_roundw
            case rel => exact ⟨k - 9, (k : Int) - 9, _, rfl, HS.out, HO1.out, HB1.out⟩
            case measure => simp [intOf]; omega
  case neg =>
    have hone : decide ((1 : Int) < (s.size : Int)) = false := decide_eq_false (by omega)
    have HY := Lib.hid (pnOk_one hd h1)
    rw [pnD_yes HY.out, HY.out]
    go_enter Tryd.func22, Tryd.ntmps22
    go_wp2_with fail
    refine (specIsDigits_any s _ hs).mono ?_
    rintro e W1 ⟨rfl, b1⟩
    rw [hd]
    have HB1 := Lib.hid b1
    clear b1
    go_wp2
    go_loopw [4, 5] (fun o z wr => ∃ (e : Nat) (zi : Int) (xs : List Int), z = .int .i64 zi ∧ Hid (PInv s.data.toList e zi xs) ∧ Hid (Own 3 wr w.heap.size o xs) ∧ Hid (Below w.heap.size w wr)) (fun _ z _ => (intOf z).toNat)
    case atStart => exact ⟨s.size, s.size, [], rfl, by have := PInv.start s.data.toList; simpa [Hid] using this, (own_empty W1).rebase HB1.out.size, HB1.out.alloc HB1.out.size _⟩
    case round =>
      obtain ⟨e, zi, xs, rfl, HP, HO, HB⟩ := hrel
      by_cases hp : 0 < zi
      case neg =>
        have he0 : e = 0 := by rcases HP.out.hz with h | h <;> omega
        subst he0
        obtain ⟨p, c, rfl, hI⟩ := HO.out.out
        have HI := Lib.hid hI
        have hlx : xs.length ≤ 1048576 := by have := HP.out.cap; have : s.data.toList.length = s.size := (by simp); omega
        have hzn : decide (0 < zi) = false := decide_eq_false (by omega)
        clear hI
        go_wp2_with fail
        refine (l02Trim_any p c xs _ HI.out.ints hlx HP.out.rng).mono ?_
        rintro e w' ⟨⟨m, hm, rfl, htk⟩, rfl⟩
        have HT := Lib.hid htk
        clear htk
        go_wp2
        go_ret2
        have h2 := HI.out.take hm
        rw [HT.out, HP.out.done] at h2
        have h3 := congrArg List.length HT.out
        rw [List.length_take, Nat.min_eq_left hm, HP.out.done] at h3
        exact ⟨p, c, by rw [h3]; rfl, h2, HB.out⟩
      obtain ⟨rfl, he⟩ : zi = (e : Int) ∧ 0 < e := by rcases HP.out.hz with h | h <;> omega
      have hes : e ≤ s.size := by have := HP.out.he; simpa using this
      clear hp
      by_cases h9 : (e : Int) - 9 < 0
      · have h9' : decide ((e : Int) - 9 < 0) = true := decide_eq_true h9
        go_wp2
        go_loop [7, 8] (fun n i => ∃ k : Nat, 0 ≤ k ∧ k ≤ e ∧ i = .int .i64 k ∧ n = .int .i64 ((rd ((s.data.toList.take k).drop 0) : Nat) : Int)) (fun _ i => e - (intOf i).toNat)
        case atStart => exact ⟨0, Nat.le_refl _, by omega, rfl, by rw [mid_none]; rfl⟩
        case round =>
          obtain ⟨k, hfk, hke, rfl, rfl⟩ := hrel
          by_cases hlt : k < e
          · have hks : k < s.size := by omega
            have hq := mid_eight HD.out (f := 0) (k := k) (by omega)
            have hst := mid_step (l := s.data.toList) (f := 0) (k := k) (by omega) (by simpa using hks)
            have hby : s.data.toList[k]'(by simpa using hks) = s[k] := rfl
            have hdg := digC_iff.1 (List.all_eq_true.1 HD.out _ (bytes_mem s k hks))
            rw [hby] at hst
            have HST := Lib.hid hst
            clear hst hby
            obtain ⟨q, hqq⟩ : ∃ q, q = rd ((s.data.toList.take k).drop 0) := ⟨_, rfl⟩
            rw [← hqq] at hq ⊢
            have HQ := Lib.hid hqq
            clear hqq
            go_wp2
            go_round
            case rel => exact ⟨k + 1, by omega, by omega, by go_num, by rw [HST.out, ← HQ.out]; congr 1; omega⟩
            case measure => simp [intOf]; omega
          · obtain rfl : k = e := by omega
            have hc9 := mid_nine HD.out (f := 0) (k := k) (by omega)
            obtain ⟨q, hqq⟩ : ∃ q, q = rd ((s.data.toList.take k).drop 0) := ⟨_, rfl⟩
            rw [← hqq] at hc9 ⊢
            have HS : Hid (PInv s.data.toList (k - 9) ((k : Int) - 9) (xs ++ [(q : Int)])) := by have := HP.out.step HD.out he; rw [hqq]; rw [show k - 9 = 0 by omega] at this ⊢; exact this
            have HQ := Lib.hid hqq
            clear hqq
            have hlx : xs.length + 1 ≤ 16777216 := by have := HP.out.cap; have : s.data.toList.length = s.size := (by simp); omega
            go_wp2_with (at_builtin; go_must (refine append_int HO.out (n := (q : Int)) (by unfold In64; omega) hlx HB.out.size rfl _ _ rfl rfl rfl ?_); intro v' w1 hown1 hb1 _)
            have HO1 := Lib.hid hown1
            have HB1 := Lib.hid (HB.out.trans hb1)
            clear hown1 hb1
            go_wp2
            go_roundw
            case rel => exact ⟨k - 9, (k : Int) - 9, _, rfl, HS.out, HO1.out, HB1.out⟩
            case measure => simp [intOf]; omega
      · have h9' : decide ((e : Int) - 9 < 0) = false := decide_eq_false h9
        omega
theorem specParseNat_any (s : ByteArray) (w : World) (hs : s.size ≤ 1048576) : Calls Tryd.prog 22 #[.string s] w fun e w' => ∃ p c, e = .returned (.tuple #[.slice p (pnD s).length c, .bool (pnOk s)]) ∧ IntsAt w' p c (pnD s) ∧ Below w.heap.size w w' :=
  (specParseNat_own s w hs).mono fun _ _ ⟨p, c, h1, h2, h3⟩ => ⟨p, c, h1, h2.ints, h3⟩
end Go.Proofs.YtjklefkkdaelnaaDoor
