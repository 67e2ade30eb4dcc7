/- ParseNat: the limbs of a numeral. -/
import Derived.Test.YtehhpkeabckdaaaGreatDoorFmtW
import Derived.Test.YtehhpkeabckdaaaGreatDoorK2
import Derived.Test.YtehhpkeabckdaaaGreatDoorK1
namespace Go.Proofs.YtehhpkeabckdaaaGreatDoor
set_option linter.unusedVariables false
set_option linter.unusedSimpArgs false
open Go.RowKit
theorem str_ne {u s : ByteArray} (h : ¬ u = s) : (u.toList == s.toList) = false := by
  rw [ByteArray.toList_eq, ByteArray.toList_eq]
  exact beq_eq_false_iff_ne.2 (fun e => h (Go.WideShapes.bytes_inj e))
def pnOk (s : ByteArray) : Bool := isDigits s && decide (s.size ≤ 540) && (decide (s.size ≤ 1) || decide (s.data.toList.head? ≠ some 48))
def pnD (s : ByteArray) : List Int := if pnOk s then digs (rd s.data.toList) else []
theorem allDig_sub {l m : List UInt8} (h : allDig l = true) (hs : ∀ x ∈ m, x ∈ l) : allDig m = true := by
  unfold allDig at *
  rw [List.all_eq_true] at *
  exact fun x hx => h x (hs x hx)
theorem rd_le {l : List UInt8} (h : allDig l = true) {k : Nat} (hk : l.length ≤ k) : rd l < 10 ^ k := Nat.lt_of_lt_of_le (rd_lt h) (Nat.pow_le_pow_right (by decide) hk)
theorem mid_dig {l : List UInt8} (h : allDig l = true) (f k : Nat) : allDig ((l.take k).drop f) = true := allDig_sub h fun x hx => List.mem_of_mem_take (List.mem_of_mem_drop hx)
theorem mid_step {l : List UInt8} {f k : Nat} (hf : f ≤ k) (hk : k < l.length) : rd ((l.take (k + 1)).drop f) = 10 * rd ((l.take k).drop f) + (l[k].toNat - 48) := by
  rw [List.take_succ_eq_append_getElem hk, List.drop_append_of_le_length (by rw [List.length_take]; omega), rd_snoc]
theorem mid_none (l : List UInt8) (k : Nat) : rd ((l.take k).drop k) = 0 := by
  rw [List.drop_of_length_le (by rw [List.length_take]; omega)]; rfl
theorem mid_eight {l : List UInt8} (h : allDig l = true) {f k : Nat} (hk : k ≤ f + 8) : rd ((l.take k).drop f) ≤ 99999999 := by
  have := rd_le (mid_dig h f k) (k := 8) (by rw [List.length_drop, List.length_take]; omega)
  omega
theorem mid_nine {l : List UInt8} (h : allDig l = true) {f k : Nat} (hk : k ≤ f + 9) : rd ((l.take k).drop f) ≤ 999999999 := by
  have := rd_le (mid_dig h f k) (k := 9) (by rw [List.length_drop, List.length_take]; omega)
  omega
/-- between two rounds: the bytes from place e on are told by the limbs xs -/
structure PInv (l : List UInt8) (e : Nat) (z : Int) (xs : List Int) : Prop where
  he : e ≤ l.length
  hz : z = e ∨ (e = 0 ∧ z ≤ 0)
  rng : Rng xs
  hv : val xs = rd (l.drop e)
  hl : e = 0 ∨ l.length = e + 9 * xs.length
  cap : 9 * xs.length ≤ l.length + 8
theorem PInv.start (l : List UInt8) : PInv l l.length l.length [] := ⟨Nat.le_refl _, .inl rfl, Rng.nil, by rw [List.drop_length]; rfl, .inr (by simp), by simp⟩
theorem PInv.step {l : List UInt8} {e : Nat} {z : Int} {xs : List Int} (h : PInv l e z xs) (hd : allDig l = true) (hp : 0 < e) : PInv l (e - 9) (z - 9) (xs ++ [((rd ((l.take e).drop (e - 9)) : Nat) : Int)]) := by
  have h1 := h.he
  have h2 := h.hl
  have h3 := mid_nine hd (f := e - 9) (k := e) (by omega)
  refine ⟨by omega, ?_, h.rng.app (Rng.cons ⟨by omega, by omega⟩ Rng.nil), ?_, ?_, ?_⟩
  · rcases h.hz with hz | ⟨h0, _⟩ <;> omega
  · rw [val_append, h.hv]
    have e1 : l.drop (e - 9) = (l.take e).drop (e - 9) ++ l.drop e := by
      conv => lhs; rw [← List.take_append_drop e l]
      rw [List.drop_append_of_le_length (by rw [List.length_take]; omega)]
    rw [e1, rd_append, List.length_drop, pw_ten, show l.length - e = 9 * xs.length by omega]
    simp only [val, Int.toNat_natCast, Nat.mul_zero, Nat.add_zero]
    rw [Nat.mul_comm, Nat.add_comm]
  · rw [List.length_append, List.length_singleton]; omega
  · rw [List.length_append, List.length_singleton]; omega
theorem PInv.done {l : List UInt8} {xs : List Int} {z : Int} (h : PInv l 0 z xs) : val xs = rd l := by rw [h.hv, List.drop_zero]
theorem isDigits_all {s : ByteArray} (h : isDigits s = true) : allDig s.data.toList = true ∧ 0 < s.size := by
  unfold isDigits at h
  simpa using h
theorem head_byte {s : ByteArray} (h : 0 < s.size) : s.data.toList.head? = some s[0] := by
  rw [List.head?_eq_getElem?, List.getElem?_eq_getElem (by simpa using h)]; rfl
theorem pnOk_dig {s : ByteArray} (h : isDigits s = false) : pnOk s = false := by unfold pnOk; rw [h]; rfl
theorem pnOk_long {s : ByteArray} (h : ¬ s.size ≤ 540) : pnOk s = false := by unfold pnOk; rw [decide_eq_false h]; simp
theorem pnOk_zero {s : ByteArray} (h : 1 < s.size) (h0 : s[0] = 48) : pnOk s = false := by
  unfold pnOk
  rw [head_byte (by omega), h0, decide_eq_false (show ¬ s.size ≤ 1 by omega)]
  simp
theorem pnOk_one {s : ByteArray} (hd : isDigits s = true) (h : ¬ 1 < s.size) : pnOk s = true := by
  unfold pnOk
  rw [hd, decide_eq_true (show s.size ≤ 540 by omega), decide_eq_true (show s.size ≤ 1 by omega)]; rfl
theorem pnOk_yes {s : ByteArray} (hd : isDigits s = true) (h : s.size ≤ 540) (h1 : 1 < s.size) (h0 : ¬ s[0] = 48) : pnOk s = true := by
  unfold pnOk
  rw [hd, decide_eq_true h, head_byte (by omega), decide_eq_true (show (some s[0] : Option UInt8) ≠ some 48 by simpa using h0)]; simp
theorem pnD_yes {s : ByteArray} (h : pnOk s = true) : pnD s = digs (rd s.data.toList) := if_pos h
theorem pnD_no {s : ByteArray} (h : pnOk s = false) : pnD s = [] := if_neg (by rw [h]; exact Bool.false_ne_true)
theorem rd_len {l : List UInt8} (hd : allDig l = true) {k : Nat} (h : l.length ≤ 9 * k) : (digs (rd l)).length ≤ k := by
  apply digs_len_le
  rw [pw_ten]
  exact rd_le hd h
theorem rd_540 {s : ByteArray} (hd : isDigits s = true) (h : s.size ≤ 540) : (digs (rd s.data.toList)).length ≤ 60 := rd_len (isDigits_all hd).1 (by simpa using h)
theorem pnOk_parts {s : ByteArray} (h : pnOk s = true) : isDigits s = true ∧ s.size ≤ 540 ∧ (s.size ≤ 1 ∨ s.data.toList.head? ≠ some 48) := by
  unfold pnOk at h
  simpa [and_assoc] using h
theorem pnD_ok (s : ByteArray) : natOkB (pnD s) = true := by
  cases h : pnOk s with
  | true => rw [pnD_yes h]; exact digs_ok (rd_540 (pnOk_parts h).1 (pnOk_parts h).2.1)
  | false => rw [pnD_no h]; rfl
theorem pnD_len (s : ByteArray) : (pnD s).length ≤ 60 := by
  cases h : pnOk s with
  | true => rw [pnD_yes h]; exact rd_540 (pnOk_parts h).1 (pnOk_parts h).2.1
  | false => rw [pnD_no h]; simp
/-- the text of what was read -/
theorem fmt_rd {s : ByteArray} (hd : isDigits s = true) (h : s.size ≤ 540) : fmtNat (digs (rd s.data.toList)) = s ↔ pnOk s = true := by
  have hl : 0 < s.data.toList.length := by simpa using (isDigits_all hd).2
  rw [fmtNat_ok (digs_ok (rd_540 hd h))]
  unfold dT
  rw [List.drop_zero, val_digs]
  constructor
  · intro e
    have e2 : Lib.decDigits (rd s.data.toList) = s.data.toList := by
      have := congrArg (fun b : ByteArray => b.data.toList) e
      simpa using this
    have := dec_rd_only e2
    unfold pnOk
    rw [hd, decide_eq_true h]
    rcases this with h1 | h1
    · rw [decide_eq_true (show s.size ≤ 1 by simpa using Nat.le_of_eq h1)]; simp
    · rw [decide_eq_true h1]; simp
  · intro hk
    obtain ⟨_, _, h3⟩ := pnOk_parts hk
    have e2 : Lib.decDigits (rd s.data.toList) = s.data.toList := by
      refine dec_rd_of (isDigits_all hd).1 (fun e => by rw [e] at hl; simp at hl) ?_
      rcases h3 with h3 | h3
      · left
        have : s.data.toList.length = s.size := by simp
        omega
      · exact .inr h3
    rw [e2]
end Go.Proofs.YtehhpkeabckdaaaGreatDoor
