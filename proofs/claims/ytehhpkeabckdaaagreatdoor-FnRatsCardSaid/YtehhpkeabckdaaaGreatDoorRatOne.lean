/- Rationals: the small helpers (one, isSmall). -/
import Derived.Test.YtehhpkeabckdaaaGreatDoorRatLaw
import Derived.Test.YtehhpkeabckdaaaGreatDoorK2
import Derived.Test.YtehhpkeabckdaaaGreatDoorTyR
import Derived.Test.YtehhpkeabckdaaaGreatDoorGcdS
namespace Go.Proofs.YtehhpkeabckdaaaGreatDoor
set_option linter.unusedVariables false
set_option linter.unusedSimpArgs false
open Go.RowKit
theorem one_digs {N : Nat} {x : Int} (hx : digs N = [x]) : decide (N = 1) = (x == 1) := by
  have h1 : val [x] = N := by rw [← hx, val_digs]
  have h2 : Rng [x] := by rw [← hx]; exact digs_rng N
  have h3 := h2 x (by simp)
  have h4 : x.toNat = N := by rw [← h1]; simp [val]
  by_cases h : x = 1
  · subst h; simp [← h4]
  · rw [beq_eq_false_iff_ne.2 h]; exact decide_eq_false (by omega)
theorem one_len {N : Nat} (h : (digs N).length ≠ 1) : decide (N = 1) = false := by
  apply decide_eq_false
  rintro rfl
  apply h
  have : digs 1 = [1] := by
    have e : val [1] = 1 := by simp [val]
    rw [← e]; exact ok_digs (by decide)
  rw [this]; rfl
section
variable (a : Option Addr) (c N : Nat) (w : World) (ha : IntsAt w a c (digs N))
include ha
theorem l04One_any : Calls Tryz.prog 102 #[.slice a (digs N).length c] w fun e w' => e = .returned (.bool (decide (N = 1))) ∧ Below w.heap.size w w' := by
  by_cases h : (digs N).length = 1
  · obtain ⟨x, hx⟩ := List.length_eq_one_iff.1 h
    rw [one_digs hx]
    rw [hx] at ha
    rw [hx]
    obtain ⟨b, off, rfl, hc⟩ := ha.get (k := 0) (by simp)
    simp only [List.length_singleton, List.getElem_singleton, Nat.add_zero] at hc ⊢
    clear ha h hx
    go_enter Tryz.func102, Tryz.ntmps102
    go_wp2
    go_ret
    exact ⟨rfl, Below.refl _ _⟩
  · rw [one_len h]
    have h' : (((digs N).length : Int) == 1) = false := beq_eq_false_iff_ne.2 (by omega)
    clear ha
    go_enter Tryz.func102, Tryz.ntmps102
    go_wp2
    go_ret
    exact ⟨rfl, Below.refl _ _⟩
theorem isOne_any : Calls Tryz.prog 22 #[.slice a (digs N).length c] w fun e w' => e = .returned (.bool (decide (N = 1))) ∧ Below w.heap.size w w' := by
  by_cases h : (digs N).length = 1
  · obtain ⟨x, hx⟩ := List.length_eq_one_iff.1 h
    rw [one_digs hx]
    rw [hx] at ha
    rw [hx]
    obtain ⟨b, off, rfl, hc⟩ := ha.get (k := 0) (by simp)
    simp only [List.length_singleton, List.getElem_singleton, Nat.add_zero] at hc ⊢
    clear ha h hx
    go_enter Tryz.func22, Tryz.ntmps22
    go_wp2
    go_ret
    exact ⟨rfl, Below.refl _ _⟩
  · rw [one_len h]
    have h' : (((digs N).length : Int) == 1) = false := beq_eq_false_iff_ne.2 (by omega)
    clear ha
    go_enter Tryz.func22, Tryz.ntmps22
    go_wp2
    go_ret
    exact ⟨rfl, Below.refl _ _⟩
end
set_option maxHeartbeats 1000000 in
theorem gcd_any (x y : Int) (w : World) (hx0 : 0 ≤ x) (hx1 : x ≤ 9223372036854775807) (hy0 : 0 ≤ y) (hy1 : y ≤ 9223372036854775807) :
    Calls Tryz.prog 48 #[.int .i64 x, .int .i64 y] w fun e w' => e = .returned (.int .i64 (Nat.gcd x.toNat y.toNat : Nat)) ∧ Below w.heap.size w w' := by
  go_enter Tryz.func48, Tryz.ntmps48
  go_wp2
  go_loopw [0, 1] (fun a b wr => ∃ m n : Int, a = .int .i64 m ∧ b = .int .i64 n ∧ 0 ≤ m ∧ m ≤ 9223372036854775807 ∧ 0 ≤ n ∧ n ≤ 9223372036854775807 ∧ Nat.gcd m.toNat n.toNat = Nat.gcd x.toNat y.toNat ∧ Below w.heap.size w wr) (fun _ b _ => (intOf b).toNat)
  case atStart => exact ⟨x, y, rfl, rfl, hx0, hx1, hy0, hy1, rfl, Below.refl _ _⟩
  case round =>
    obtain ⟨m, n, rfl, rfl, hm0, hm1, hn0, hn1, hg, hb⟩ := hrel
    have HG := Lib.hid hg
    have HB := Lib.hid hb
    clear hg hb
    by_cases h : 0 < n
    · have hnz : (n == 0) = false := beq_eq_false_iff_ne.2 (by omega)
      have e0 : 0 ≤ m % n := Int.emod_nonneg _ (by omega)
      have e1 : m % n < n := Int.emod_lt_of_pos _ h
      have E2 : Hid ((m % n).toNat = m.toNat % n.toNat) := toNat_mod hm0 hn0
      go_wp2
      go_quiet (fail)
      go_wp2
      go_roundw
      case rel => exact ⟨n, m % n, rfl, rfl, hn0, hn1, e0, by omega, by rw [E2.out, gcd_step]; exact HG.out, HB.out.trans (below_drewN (Below.refl _ _) _)⟩
      case measure => simp [intOf]; omega
    · have HE : Hid (m = (Nat.gcd x.toNat y.toNat : Nat)) := by
        have := HG.out
        rw [show n.toNat = 0 by omega, Nat.gcd_zero_right] at this
        unfold Hid; omega
      rw [HE.out]
      go_wp2
      go_ret
      exact ⟨rfl, HB.out⟩
end Go.Proofs.YtehhpkeabckdaaaGreatDoor
