/- PadZeros. -/
import Derived.Test.YtehhpkeabckdaaaGreatDoorStrs
import Derived.Test.YtehhpkeabckdaaaGreatDoorShelf
namespace Go.Proofs.YtehhpkeabckdaaaGreatDoor
set_option linter.unusedVariables false
set_option linter.unusedSimpArgs false
open Go.RowKit
def padL (s : ByteArray) (j : Nat) : ByteArray := ⟨(List.replicate j 48 ++ s.data.toList).toArray⟩
def padB (s : ByteArray) (n : Int) : ByteArray := if n ≤ 2000 then padL s (n.toNat - s.size) else s
theorem padL_zero (s : ByteArray) : padL s 0 = s := by
  unfold padL
  simp
theorem padL_succ (s : ByteArray) (j : Nat) : (⟨#[48]⟩ : ByteArray) ++ padL s j = padL s (j + 1) := by
  apply ByteArray.ext
  simp [padL, ByteArray.data_append, List.replicate_succ]
theorem padL_size (s : ByteArray) (j : Nat) : (padL s j).size = j + s.size := by
  unfold padL ByteArray.size
  simp
theorem one48 : (⟨#[48]⟩ : ByteArray).size = 1 := rfl
def strLen (v : Value) : Int := match v with
  | .string s => (s.size : Int)
  | _ => 0
theorem rep_zeros (c : Nat) : Lib.repeatL [48] c = List.replicate c 48 := by
  induction c with
  | zero => rfl
  | succ c ih => simp [Lib.repeatL, List.replicate_succ] at *; first | done | exact ih | (rw [ih])
theorem repeat_zeros (c : Nat) (w : World) (h : c ≤ 2000) : Calls Tryz.prog 75 #[.string ⟨#[48]⟩, .int .i64 c] w fun e w' => e = .returned (.string ⟨(List.replicate c 48).toArray⟩) ∧ Below w.heap.size w w' := by
  have h2 := Tryz.strings_Repeat ⟨#[48]⟩ c w (by omega) (by show 1 * c ≤ _; omega)
  rw [show (⟨#[48]⟩ : ByteArray).data.toList = [48] from rfl, rep_zeros] at h2
  exact h2
theorem padL_app (s : ByteArray) (c : Nat) : (⟨Array.replicate c 48⟩ : ByteArray) ++ s = padL s c := by
  apply ByteArray.ext
  simp [padL, ByteArray.data_append]
set_option maxHeartbeats 1000000 in
theorem implPadZeros_any (s : ByteArray) (n : Int) (w : World) (hs : s.size ≤ 1048576) (_ : In64 n) : Calls Tryz.prog 53 #[.string s, .int .i64 n] w fun e w' => e = .returned (.string (padB s n)) ∧ Below w.heap.size w w' := by
  by_cases h1 : n ≤ 2000
  · have h1' : decide (2000 < n) = false := decide_eq_false (by omega)
    by_cases h2 : n ≤ (s.size : Int)
    · have h2' : decide (n ≤ (s.size : Int)) = true := decide_eq_true h2
      have e : padB s n = s := by rw [padB, if_pos h1, show n.toNat - s.size = 0 by omega, padL_zero]
      rw [e]
      go_enter Tryz.func53, Tryz.ntmps53
      go_wp2
      go_ret
      exact ⟨rfl, Below.refl _ _⟩
    · have h2' : decide (n ≤ (s.size : Int)) = false := decide_eq_false h2
      obtain ⟨c, hc⟩ : ∃ c : Nat, n - (s.size : Int) = (c : Int) := ⟨(n - s.size).toNat, by omega⟩
      have HC := Lib.hid hc
      have e : padB s n = padL s c := by rw [padB, if_pos h1]; congr 1; omega
      rw [e]
      have hc2 : c ≤ 2000 := by omega
      have hno : ¬ 9223372036854775807 < c + s.size := by omega
      clear hc e
      go_enter Tryz.func53, Tryz.ntmps53
      go_wp2_with fail
      rw [HC.out]
      refine (repeat_zeros c _ hc2).mono ?_
      rintro e W1 ⟨rfl, b1⟩
      go_wp2
      go_ret
      refine ⟨?_, b1⟩
      show Ending.returned (.string ((⟨Array.replicate c 48⟩ : ByteArray) ++ s)) = _
      rw [padL_app]
  · have h1' : decide (2000 < n) = true := decide_eq_true (by omega)
    have e : padB s n = s := if_neg h1
    rw [e]
    go_enter Tryz.func53, Tryz.ntmps53
    go_wp2
    go_ret
    exact ⟨rfl, Below.refl _ _⟩
end Go.Proofs.YtehhpkeabckdaaaGreatDoor
