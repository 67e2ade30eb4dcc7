/- NatToInt of the reference. -/
import Derived.Test.YtehhpkeabckdaaaGreatDoorK4
import Derived.Test.YtehhpkeabckdaaaGreatDoorK3
namespace Go.Proofs.YtehhpkeabckdaaaGreatDoor
set_option linter.unusedVariables false
set_option linter.unusedSimpArgs false
open Go.RowKit

def natToB (xs : List Int) : Bool := natOkB xs && decide (val xs ≤ 9223372036854775807)
def natToI (xs : List Int) : Int := if natToB xs then ((val xs : Nat) : Int) else 0
theorem natTo_no1 {xs : List Int} (h : natOkB xs = false) : natToB xs = false ∧ natToI xs = 0 := by
  have : natToB xs = false := by unfold natToB; rw [h]; rfl
  exact ⟨this, by unfold natToI; rw [this]; rfl⟩
theorem natTo_no2 {xs : List Int} (h : 9223372036854775807 < val xs) : natToB xs = false ∧ natToI xs = 0 := by
  have : natToB xs = false := by unfold natToB; rw [decide_eq_false (by omega)]; simp
  exact ⟨this, by unfold natToI; rw [this]; rfl⟩
theorem natTo_yes {xs : List Int} (h : natOkB xs = true) (h2 : val xs ≤ 9223372036854775807) : natToB xs = true ∧ natToI xs = ((val xs : Nat) : Int) := by
  have : natToB xs = true := by unfold natToB; rw [h, decide_eq_true h2]; rfl
  exact ⟨this, by unfold natToI; rw [this]; rfl⟩
theorem val_drop_le (xs : List Int) (k : Nat) : val (xs.drop k) ≤ val xs := by
  rcases Nat.lt_or_ge xs.length k with h | h
  · rw [List.drop_of_length_le (by omega)]; exact Nat.zero_le _
  · have h1 := val_split xs h
    have h2 : 1 * val (xs.drop k) ≤ pw k * val (xs.drop k) := Nat.mul_le_mul_right _ (pw_pos k)
    omega
theorem cmp_max {xs : List Int} (h : digs (val xs) = xs) : cmpL xs [854775807, 223372036, 9] = cmpN (val xs) 9223372036854775807 := by
  have hr : Rng [854775807, 223372036, 9] := by intro x hx; simp at hx; omega
  have := cmp_digs h (digs_val hr (by simp))
  rw [this]
  simp [val]

section
variable (a : Option Addr) (ca : Nat) (xs : List Int) (w : World) (ha : IntsAt w a ca xs) (hn : xs.length ≤ 1048576)
include ha hn
set_option maxHeartbeats 2000000 in
theorem specNatToInt_any : Calls Tryz.prog 115 #[.slice a xs.length ca] w fun e w' => e = .returned (.tuple #[.int .i64 (natToI xs), .bool (natToB xs)]) ∧ Below w.heap.size w w' := by
  have HA := Lib.hid ha
  clear ha
  by_cases h1 : natOkB xs = true
  · have HX := Lib.hid (ok_rng h1)
    have HC := Lib.hid (cmp_max (ok_digs h1))
    by_cases h2 : val xs ≤ 9223372036854775807
    · rw [(natTo_yes h1 h2).1, (natTo_yes h1 h2).2]
      have hc : cmpL xs [854775807, 223372036, 9] ≤ 0 := by rw [HC.out, cmpN]; split; omega; rw [if_neg (by omega)]; omega
      go_enter Tryz.func115, Tryz.ntmps115
      go_wp2_with fail
      refine (specNatOk_q _ _ _ _ HA.out hn).mono ?_
      rintro e w' ⟨rfl, rfl⟩
      go_wp2_with fail
      have HI := ints_lit w [854775807, 223372036, 9] (fun x hx => by simp at hx; unfold In64; omega) (by simp [maxLen])
      simp only [List.map_cons, List.map_nil, List.length_cons, List.length_nil] at HI
      refine (l02Cmp_any a ca xs _ _ _ _ (HA.out.below (ba1 _ _)) HI hn (by simp)).mono ?_
      rintro e w1 ⟨rfl, b1⟩
      have B1 := Lib.hid (bstep (ba1 _ _) b1)
      clear HI b1
      go_wp2
      go_loop [4, 5] (fun n i => ∃ (m : Int) (k : Nat), i = .int .i64 ((k : Int) - 1) ∧ n = .int .i64 m ∧ 0 ≤ m ∧ m ≤ 9223372036854775807 ∧ k ≤ xs.length ∧ m.toNat = val (xs.drop k)) (fun _ i => (intOf i + 1).toNat)
      case atStart => exact ⟨0, xs.length, rfl, rfl, by omega, by omega, by omega, by simp [val]⟩
      case round =>
        obtain ⟨m, k, rfl, rfl, hm0, hm1, hk, hmv⟩ := hrel
        have HM := Lib.hid hmv
        clear hmv
        cases k with
        | zero =>
          have he : Hid (((val xs : Nat) : Int) = m) := by have := HM.out; rw [List.drop_zero] at this; unfold Hid; omega
          go_wp2
          go_ret2
          exact ⟨(show Ending.returned (.tuple #[.int .i64 m, .bool true]) = _ by rw [he.out]), B1.out⟩
        | succ k =>
          have hk2 : k < xs.length := by omega
          obtain ⟨b1, off1, rfl, hc1⟩ := (HA.out.below B1.out).get hk2
          have r1 := HX.out.at hk2
          have D1 := Lib.hid (val_drop hk2)
          have hb0 : m * 1000000000 + xs[k] ≤ 9223372036854775807 := by
            have d1 := D1.out
            have d2 := val_drop_le xs k
            have d3 := HM.out
            omega
          have ek : ((k + 1 : Nat) : Int) - 1 = (k : Int) := by omega
          rw [ek]
          clear ek
          go_wp2
          go_round
          case rel => exact ⟨_, k, rfl, rfl, by omega, hb0, by omega, by have := HM.out; have := D1.out; omega⟩
          case measure => simp [intOf] <;> omega
    · rw [(natTo_no2 (by omega)).1, (natTo_no2 (xs := xs) (by omega)).2]
      have hc : 0 < cmpL xs [854775807, 223372036, 9] := by rw [HC.out, cmpN, if_neg (by omega), if_pos (by omega)]; omega
      go_enter Tryz.func115, Tryz.ntmps115
      go_wp2_with fail
      refine (specNatOk_q _ _ _ _ HA.out hn).mono ?_
      rintro e w' ⟨rfl, rfl⟩
      go_wp2_with fail
      have HI := ints_lit w [854775807, 223372036, 9] (fun x hx => by simp at hx; unfold In64; omega) (by simp [maxLen])
      simp only [List.map_cons, List.map_nil, List.length_cons, List.length_nil] at HI
      refine (l02Cmp_any a ca xs _ _ _ _ (HA.out.below (ba1 _ _)) HI hn (by simp)).mono ?_
      rintro e w1 ⟨rfl, b1⟩
      have B1 := Lib.hid (bstep (ba1 _ _) b1)
      clear HI b1
      go_wp2
      go_ret2
      exact ⟨rfl, B1.out⟩
  · have h1' := Bool.eq_false_iff.2 h1
    rw [(natTo_no1 h1').1, (natTo_no1 h1').2]
    go_enter Tryz.func115, Tryz.ntmps115
    go_wp2_with fail
    refine (specNatOk_q _ _ _ _ HA.out hn).mono ?_
    rintro e w' ⟨rfl, rfl⟩
    go_wp2
    go_ret2
    exact ⟨rfl, Below.refl _ _⟩
end
end Go.Proofs.YtehhpkeabckdaaaGreatDoor
