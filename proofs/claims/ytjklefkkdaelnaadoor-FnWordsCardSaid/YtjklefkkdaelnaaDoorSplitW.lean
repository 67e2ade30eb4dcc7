/- SplitAny. -/
import Derived.Test.YtjklefkkdaelnaaDoorStrOps
import Derived.Lib.Bytealg
import Derived.Lib.Walk
namespace Go.Proofs.YtjklefkkdaelnaaDoor
set_option linter.unusedVariables false
set_option linter.unusedSimpArgs false
open Go.RowKit
theorem splitAny_len {s by_ : ByteArray} (h : s.size ≤ 1048576) : (splitAny s by_).length ≤ 2000000 := by
  have := splitStep_len s by_ s.size
  unfold splitAny
  simp; omega
theorem has_at {s : ByteArray} {c : UInt8} {k : Nat} (hk : k < s.size) (h : s[k] = c) : s.data.toList.contains c = true := by
  rw [List.contains_iff_mem]; rw [← h]
  have : s[k] = s.data.toList[k]'(by simpa using hk) := rfl
  rw [this]; exact List.getElem_mem _
theorem getD_byte (s : ByteArray) (k : Nat) (h : k < s.size) : s.data.toList.getD k 0 = s[k] := by
  rw [List.getD_eq_getElem?_getD, List.getElem?_eq_getElem (by simpa using h)]; rfl
theorem drewN_any (w : World) (k n : Nat) : Below n w (w.drewN k) := below_drewN (Below.refl _ _) k
theorem bytes_take' (s : ByteArray) (k : Nat) (h : k < s.size) : s.data.toList.take (k + 1) = s.data.toList.take k ++ [s[k]] := by
  rw [List.take_succ_eq_append_getElem (by simpa using h)]; rfl
set_option maxHeartbeats 4000000 in
theorem specSplitAny_own (s t : ByteArray) (w : World) (hs : s.size ≤ 1048576) (ht : t.size ≤ 1048576) : Calls Tryd.prog 59 #[.string s, .string t] w fun e w' => ∃ p c, e = .returned (.slice p (splitAny s t).length c) ∧ OwnS w' w.heap.size w'.heap.size (.slice p (splitAny s t).length c) (splitAny s t) ∧ Below w.heap.size w w' := by
  go_enter Tryd.func59, Tryd.ntmps59
  go_wp2
  go_loopw [5, 6, 7] (fun o f i wr => ∃ k : Nat, k ≤ s.size ∧ i = .int .i64 k ∧ f = .int .i64 ((splitStep s t k).2 : Nat) ∧ Hid (OwnStr wr w.heap.size o (splitStep s t k).1) ∧ Hid (Below w.heap.size w wr)) (fun _ _ i _ => s.size - (intOf i).toNat)
  case atStart => exact ⟨0, Nat.zero_le _, rfl, rfl, ownStr_empty w, (Below.refl _ _).alloc (Nat.le_refl _) _⟩
  case round =>
    obtain ⟨k, hk, rfl, rfl, O, BL⟩ := hrel
    have hf := splitStep_from s t k
    have hl := splitStep_len s t k
    obtain ⟨p, c, rfl, -⟩ := O.out.form
    by_cases hlt : k < s.size
    · have hgd := getD_byte s k hlt
      go_wp2
      go_loopw [5, 6, 8] (fun o2 f2 j wq => ∃ m : Nat, m ≤ t.size ∧ o2 = .slice p (splitStep s t k).1.length c ∧ f2 = .int .i64 ((splitStep s t k).2 : Nat) ∧ j = .int .i64 m ∧ Hid ((t.data.toList.take m).contains s[k] = false) ∧ Hid (OwnStr wq w.heap.size (.slice p (splitStep s t k).1.length c) (splitStep s t k).1) ∧ Hid (Below w.heap.size w wq)) (fun _ _ j _ => t.size - (intOf j).toNat)
      case atStart => exact ⟨0, Nat.zero_le _, rfl, rfl, rfl, by simp [Hid], O, BL⟩
      case round =>
        obtain ⟨m, hm, rfl, rfl, rfl, C, O2, B2⟩ := hrel
        by_cases hm2 : m < t.size
        · go_wp2
          go_quiet (fail)
          go_wp2_with (at_builtin; go_must (refine append_str (O2.out.below (below_drewN (Below.refl _ _) _)) (by omega) (by have := B2.out.size; simp; omega) rfl _ _ rfl rfl rfl ?_); intro v' W1 hO1 hb1)
          · rename_i he
            have hhit : t.data.toList.contains (s.data.toList.getD k 0) = true := by
              rw [hgd]
              exact has_at hm2 (UInt8.toNat_inj.1 (by first | omega | (simp at he; omega)))
            have HO1 := Lib.hid hO1
            have HB1 := Lib.hid (B2.out.trans ((drewN_any _ _ _).trans hb1))
            clear hO1 hb1
            go_wp2
            go_roundw
            case rel =>
              refine ⟨k + 1, by omega, by go_num, ?_, ?_, HB1.out⟩
              · rw [splitStep_hit hhit]; simp
              · rw [splitStep_hit hhit]; exact HO1.out
            case measure => simp [intOf]; omega
          · rename_i he
            go_roundw
            case rel =>
              refine ⟨m + 1, by omega, rfl, rfl, by go_num, ?_, O2.out.below (drewN_any _ _ _), B2.out.trans (drewN_any _ _ _)⟩
              unfold Hid
              rw [bytes_take' t m hm2, List.contains_append, C.out]
              simp
              intro hh
              rw [hh] at he
              simp at he
            case measure => simp [intOf]; omega
        · go_wp2
          go_roundw
          case rel =>
            have hmiss : t.data.toList.contains (s.data.toList.getD k 0) = false := by
              have := C.out
              rw [List.take_of_length_le (by simp; omega)] at this
              rw [hgd]; exact this
            refine ⟨k + 1, by omega, by go_num, ?_, ?_, B2⟩
            · rw [splitStep_miss hmiss]
            · rw [splitStep_miss hmiss]; exact O2
          case measure => simp [intOf]; omega
    · have hks : k = s.size := by omega
      subst hks
      go_wp2_with (at_builtin; go_must (refine append_str O.out (by omega) (by exact BL.out.size) rfl _ _ rfl rfl rfl ?_); intro v' W1 hO1 hb1)
      obtain ⟨p1, c1, rfl, -⟩ := hO1.form
      have HO1 := Lib.hid hO1
      have HB1 := Lib.hid (BL.out.trans hb1)
      clear hO1 hb1
      go_ret
      exact ⟨p1, c1, rfl, HO1.out.toS, HB1.out⟩
theorem specSplitAny_any (s t : ByteArray) (w : World) (hs : s.size ≤ 1048576) (ht : t.size ≤ 1048576) : Calls Tryd.prog 59 #[.string s, .string t] w fun e w' => ∃ p c, e = .returned (.slice p (splitAny s t).length c) ∧ StrsAt w' p c (splitAny s t) ∧ Below w.heap.size w w' :=
  (specSplitAny_own s t w hs ht).mono fun _ _ ⟨p, c, h1, h2, h3⟩ => ⟨p, c, h1, h2.i1, h3⟩
theorem indexByte_cons (b : UInt8) (l : List UInt8) (c : UInt8) : Lib.indexByte (b :: l) c = if b == c then 0 else if Lib.indexByte l c == -1 then -1 else Lib.indexByte l c + 1 := rfl
theorem indexByte_sign (l : List UInt8) (c : UInt8) : decide (0 ≤ Lib.indexByte l c) = l.contains c := by
  induction l with
  | nil => rfl
  | cons b l ih =>
    rw [List.contains_cons, ← ih, indexByte_cons]
    have := Lib.indexByte_ge l c
    by_cases h : b = c
    · subst h; simp
    · have h1 : (b == c) = false := beq_eq_false_iff_ne.2 h
      have h2 : (c == b) = false := beq_eq_false_iff_ne.2 (fun e => h e.symm)
      rw [h1, h2, Bool.false_or, if_neg (by simp)]
      by_cases h3 : Lib.indexByte l c = -1
      · rw [h3]; rfl
      · have h4 : (Lib.indexByte l c == -1) = false := beq_eq_false_iff_ne.2 h3
        rw [h4, if_neg (by simp), decide_eq_true (by omega), decide_eq_true (by omega)]
set_option maxHeartbeats 1000000 in
set_option maxRecDepth 100000 in
theorem liteIndex_any (s : ByteArray) (c : Int) (w : World) :
    Calls Tryd.prog 129 #[.string s, .int .u8 c] w fun e w' => e = .returned (.int .i64 (Lib.indexByte s.data.toList c.toNat.toUInt8)) ∧ w' = w := by
  go_enter Tryd.func129, Tryd.ntmps129
  go_wp2
  rw [run_callFunc_extern Tryd.func152 (by kernel_rfl) (by kernel_rfl) (by kernel_rfl) (e := Extern.BytealgIndexByte.indexByte) (by kernel_rfl), Lib.run_indexByteString]
  simp only [Result.andThen]
  rw [Oper.upon_value]
  go_wp2
  go_ret
  exact ⟨rfl, rfl⟩
set_option maxHeartbeats 1000000 in
theorem indexByte_any (s : ByteArray) (b : UInt8) (w : World) :
    Calls Tryd.prog 98 #[.string s, .int .u8 (b.toNat : Int)] w fun e w' => ∃ z : Int, e = .returned (.int .i64 z) ∧ decide (0 ≤ z) = s.data.toList.contains b ∧ Below w.heap.size w w' := by
  have hb : ((b.toNat : Int)).toNat.toUInt8 = b := by rw [Int.toNat_natCast]; exact UInt8.ofNat_toNat
  go_enter Tryd.func98, Tryd.ntmps98
  go_wp2_with (go_at_call 129; refine (liteIndex_any _ _ _).mono ?_; rintro e w' ⟨rfl, rfl⟩)
  go_ret
  exact ⟨_, rfl, by first | exact indexByte_sign _ _ | (rw [hb]; exact indexByte_sign _ _), Below.refl _ _⟩
set_option maxHeartbeats 4000000 in
theorem implSplitAny_any (s t : ByteArray) (w : World) (hs : s.size ≤ 1048576) (ht : t.size ≤ 1048576) : Calls Tryd.prog 52 #[.string s, .string t] w fun e w' => ∃ p c, e = .returned (.slice p (splitAny s t).length c) ∧ OwnS w' w.heap.size w'.heap.size (.slice p (splitAny s t).length c) (splitAny s t) ∧ Below w.heap.size w w' := by
  go_enter Tryd.func52, Tryd.ntmps52
  go_wp2
  go_loopw [5, 6, 11] (fun o f i wr => ∃ k : Nat, k ≤ s.size ∧ i = .int .i64 k ∧ f = .int .i64 ((splitStep s t k).2 : Nat) ∧ Hid (OwnStr wr w.heap.size o (splitStep s t k).1) ∧ Hid (Below w.heap.size w wr)) (fun _ _ i _ => s.size - (intOf i).toNat)
  case atStart => exact ⟨0, Nat.zero_le _, rfl, rfl, ownStr_empty w, (Below.refl _ _).alloc (Nat.le_refl _) _⟩
  case round =>
    obtain ⟨k, hk, rfl, rfl, O, BL⟩ := hrel
    have hf := splitStep_from s t k
    have hl := splitStep_len s t k
    obtain ⟨p, c, rfl, -⟩ := O.out.form
    by_cases hlt : k < s.size
    · have hgd := getD_byte s k hlt
      go_wp2_with fail
      refine (indexByte_any t s[k] _).mono ?_
      rintro e W1 ⟨z, rfl, hz, b1⟩
      have O1 := Lib.hid (O.out.below b1)
      have B1 := Lib.hid (bstep BL.out b1)
      clear b1
      by_cases hc : t.data.toList.contains s[k] = true
      · have hhit : t.data.toList.contains (s.data.toList.getD k 0) = true := by rw [hgd]; exact hc
        have hz' : decide (0 ≤ z) = true := by rw [hz]; exact hc
        have HH := Lib.hid hhit
        clear hz hc hhit
        go_wp2_with (at_builtin; go_must (refine append_str O1.out (by omega) (by exact B1.out.size) rfl _ _ rfl rfl rfl ?_); intro v' W2 hO2 hb2)
        have HO2 := Lib.hid hO2
        have HB2 := Lib.hid (B1.out.trans hb2)
        clear hO2 hb2
        go_wp2
        go_roundw
        case rel =>
          refine ⟨k + 1, by omega, by go_num, ?_, ?_, HB2.out⟩
          · rw [splitStep_hit HH.out]; simp
          · rw [splitStep_hit HH.out]; exact HO2.out
        case measure => simp [intOf]; omega
      · have hc' := Bool.eq_false_iff.2 hc
        have hmiss : t.data.toList.contains (s.data.toList.getD k 0) = false := by rw [hgd]; exact hc'
        have hz' : decide (0 ≤ z) = false := by rw [hz]; exact hc'
        have HH := Lib.hid hmiss
        clear hz hc hc' hmiss
        go_wp2
        go_roundw
        case rel =>
          refine ⟨k + 1, by omega, by go_num, ?_, ?_, B1.out⟩
          · rw [splitStep_miss HH.out]
          · rw [splitStep_miss HH.out]; exact O1.out
        case measure => simp [intOf]; omega
    · have hks : k = s.size := by omega
      subst hks
      go_wp2_with (at_builtin; go_must (refine append_str O.out (by omega) (by exact BL.out.size) rfl _ _ rfl rfl rfl ?_); intro v' W1 hO1 hb1)
      obtain ⟨p1, c1, rfl, -⟩ := hO1.form
      have HO1 := Lib.hid hO1
      have HB1 := Lib.hid (BL.out.trans hb1)
      clear hO1 hb1
      go_ret
      exact ⟨p1, c1, rfl, HO1.out.toS, HB1.out⟩
end Go.Proofs.YtjklefkkdaelnaaDoor
