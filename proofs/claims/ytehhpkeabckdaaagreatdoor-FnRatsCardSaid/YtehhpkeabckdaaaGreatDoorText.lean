/- IsDigits, IsName. -/
import Derived.Test.YtehhpkeabckdaaaGreatDoorK1
namespace Go.Proofs.YtehhpkeabckdaaaGreatDoor
set_option linter.unusedVariables false
set_option linter.unusedSimpArgs false
open Go.RowKit

def byteB (lo hi : Int) (c : UInt8) : Bool := inB (c.toNat : Int) lo hi
def digC (c : UInt8) : Bool := byteB 48 57 c
def lowC (c : UInt8) : Bool := byteB 97 122 c
def allDig (l : List UInt8) : Bool := l.all digC
def isDigits (s : ByteArray) : Bool := allDig s.data.toList && decide (0 < s.size)

theorem bytes_take (s : ByteArray) (k : Nat) (h : k < s.size) : s.data.toList.take (k + 1) = s.data.toList.take k ++ [s[k]] := by
  rw [List.take_succ_eq_append_getElem (by simpa using h)]; rfl
theorem bytes_mem (s : ByteArray) (k : Nat) (h : k < s.size) : s[k] ∈ s.data.toList := by
  have : s[k] = s.data.toList[k]'(by simpa using h) := rfl
  rw [this]; exact List.getElem_mem _
theorem all_bytes_snoc {s : ByteArray} {k : Nat} {p : UInt8 → Bool} (h : k < s.size) (h1 : (s.data.toList.take k).all p = true) (h2 : p s[k] = true) : (s.data.toList.take (k + 1)).all p = true := by
  rw [bytes_take s k h, List.all_append, h1]; simp [h2]
theorem all_bytes_false {s : ByteArray} {k : Nat} {p : UInt8 → Bool} (h : k < s.size) (h2 : p s[k] = false) : s.data.toList.all p = false := by
  rw [List.all_eq_false]; exact ⟨_, bytes_mem s k h, by rw [h2]; exact Bool.false_ne_true⟩
theorem all_bytes_end {s : ByteArray} {k : Nat} {p : UInt8 → Bool} (h : s.size ≤ k) (h1 : (s.data.toList.take k).all p = true) : s.data.toList.all p = true := by
  rwa [List.take_of_length_le (by simpa using h)] at h1

set_option maxHeartbeats 400000 in
theorem isDigit_any (n : Int) (w : World) : Calls Tryz.prog 68 #[.int .u8 n] w fun e w' => e = .returned (.bool (inB n 48 57)) ∧ w = w' := by
  by_cases h1 : 48 ≤ n
  · have hh : decide (48 ≤ n) = true := decide_eq_true h1
    go_enter Tryz.func68, Tryz.ntmps68
    go_wp2
    go_ret
    exact ⟨ret_bool (by simp [inB, h1]), rfl⟩
  · have hh : decide (48 ≤ n) = false := decide_eq_false h1
    go_enter Tryz.func68, Tryz.ntmps68
    go_wp2
    go_ret
    exact ⟨ret_bool (inB_lo (by omega)).symm, rfl⟩

set_option maxHeartbeats 400000 in
theorem implIsDigits_q (s : ByteArray) (w : World) (hs : s.size ≤ 1048576) :
    Calls Tryz.prog 45 #[.string s] w fun e w' => e = .returned (.bool (isDigits s)) ∧ w = w' := by
  go_enter Tryz.func45, Tryz.ntmps45
  go_wp2
  go_loop [6] (fun i => ∃ k : Nat, k ≤ s.size ∧ i = .int .i64 k ∧ (s.data.toList.take k).all digC = true) (fun i => s.size - (intOf i).toNat)
  case atStart => exact ⟨0, Nat.zero_le _, rfl, rfl⟩
  case round =>
    obtain ⟨k, hk, rfl, hall⟩ := hrel
    have HA := Lib.hid hall
    clear hall
    by_cases hlt : k < s.size
    · by_cases h1 : digC s[k] = true
      · have HD := Lib.hid h1
        have hd : inB (s[k].toNat : Int) 48 57 = true := h1
        clear h1
        go_wp2_with (go_at_call 68; refine (isDigit_any _ _).mono ?_; rintro e w' ⟨rfl, rfl⟩)
        go_round
        case rel => exact ⟨k + 1, by omega, by go_num, all_bytes_snoc hlt HA.out HD.out⟩
        case measure => simp [intOf]; omega
      · have hd : inB (s[k].toNat : Int) 48 57 = false := Bool.eq_false_iff.2 h1
        have HD : Hid (digC s[k] = false) := hd
        clear h1
        go_wp2_with (go_at_call 68; refine (isDigit_any _ _).mono ?_; rintro e w' ⟨rfl, rfl⟩)
        go_ret
        exact ⟨ret_bool (by rw [isDigits, allDig, all_bytes_false hlt HD.out]; rfl), rfl⟩
    · have HE : Hid (s.data.toList.all digC = true) := all_bytes_end (by omega) HA.out
      go_wp2
      go_ret
      refine ⟨ret_bool ?_, rfl⟩
      rw [isDigits, allDig, HE.out, Bool.true_and]
      rw [ByteArray.toList_eq]
      cases h : s.data.toList with
      | nil => have : s.size = 0 := by have := congrArg List.length h; simpa using this
               simp [this]
      | cons c r => have : 0 < s.size := by have := congrArg List.length h; simp at this; omega
                    simp [this]

def nameC (k : Nat) (c : UInt8) : Bool := lowC c || (decide (k ≠ 0) && digC c)
def namePre (s : ByteArray) (k : Nat) : Bool := (List.range k).all fun i => nameC i (s.data.toList.getD i 0)
def isName (s : ByteArray) : Bool := namePre s s.size && inB s.size 1 8
theorem getD_bytes (s : ByteArray) (k : Nat) (h : k < s.size) : s.data.toList.getD k 0 = s[k] := by
  rw [List.getD_eq_getElem?_getD, List.getElem?_eq_getElem (by simpa using h)]; rfl
theorem namePre_succ {s : ByteArray} {k : Nat} (h : k < s.size) (h1 : namePre s k = true) (h2 : nameC k s[k] = true) : namePre s (k + 1) = true := by
  unfold namePre at *
  rw [List.range_succ, List.all_append, h1, List.all_cons, getD_bytes s k h, h2]
  rfl
theorem isName_false {s : ByteArray} {k : Nat} (h : k < s.size) (h2 : nameC k s[k] = false) : isName s = false := by
  have : namePre s s.size = false := by
    unfold namePre
    rw [List.all_eq_false]
    exact ⟨k, List.mem_range.2 h, by rw [getD_bytes s k h, h2]; exact Bool.false_ne_true⟩
  rw [isName, this]; rfl
theorem nameC_low {k : Nat} {c : UInt8} (h1 : (97 : Int) ≤ c.toNat) (h2 : (c.toNat : Int) ≤ 122) : nameC k c = true := by
  have : lowC c = true := inB_true h1 h2
  simp [nameC, this]
theorem nameC_dig {k : Nat} {c : UInt8} (h0 : 0 < k) (h1 : (48 : Int) ≤ c.toNat) (h2 : (c.toNat : Int) ≤ 57) : nameC k c = true := by
  have : digC c = true := inB_true h1 h2
  simp [nameC, this]; omega
theorem nameC_no {k : Nat} {c : UInt8} (h : (c.toNat : Int) < 97 ∨ 122 < (c.toNat : Int)) (h2 : k = 0 ∨ (c.toNat : Int) < 48 ∨ 57 < (c.toNat : Int)) : nameC k c = false := by
  have a : lowC c = false := by rcases h with h | h; exact inB_lo h; exact inB_hi h
  rcases h2 with h2 | h2
  · simp [nameC, a, h2]
  · have b : digC c = false := by rcases h2 with h | h; exact inB_lo h; exact inB_hi h
    simp [nameC, a, b]

section
variable (s : ByteArray) (w : World) (hs : s.size ≤ 1048576)
include hs
theorem implIsDigits_any : Calls Tryz.prog 45 #[.string s] w fun e w' => e = .returned (.bool (isDigits s)) ∧ Below w.heap.size w w' :=
  (implIsDigits_q s w hs).mono fun _ _ ⟨h1, h2⟩ => ⟨h1, h2 ▸ Below.refl _ _⟩
end
end Go.Proofs.YtehhpkeabckdaaaGreatDoor
