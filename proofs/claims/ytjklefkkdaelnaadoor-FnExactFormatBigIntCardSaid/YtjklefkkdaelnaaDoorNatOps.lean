/- NatAdd and NatCmp whole. -/
import Derived.Test.YtjklefkkdaelnaaDoorAdd
import Derived.Test.YtjklefkkdaelnaaDoorCmp
namespace Go.Proofs.YtjklefkkdaelnaaDoor
set_option linter.unusedVariables false
set_option linter.unusedSimpArgs false
open Go.RowKit

theorem ok_rng {xs : List Int} (h : natOkB xs = true) : Rng xs := by
  unfold natOkB at h
  simp only [Bool.and_eq_true, List.all_eq_true] at h
  intro x hx
  have := h.2 x hx
  unfold digB inB at this
  simp at this
  exact this
theorem ok_len {xs : List Int} (h : natOkB xs = true) : xs.length ≤ 60 := by
  unfold natOkB at h
  simp only [Bool.and_eq_true, decide_eq_true_eq] at h
  exact h.1.1
theorem ok_digs {xs : List Int} (h : natOkB xs = true) : digs (val xs) = xs := by
  apply digs_val (ok_rng h)
  unfold natOkB lastOk at h
  simp only [Bool.and_eq_true, Bool.or_eq_true, decide_eq_true_eq] at h
  rcases h.1.2 with h | h
  · have : xs = [] := by simpa using h
    subst this; simp
  · cases xs with
    | nil => simp
    | cons d r => simpa [List.getLastD] using h
theorem digs_ok {n : Nat} (h : (digs n).length ≤ 60) : natOkB (digs n) = true := by
  unfold natOkB
  simp only [Bool.and_eq_true, decide_eq_true_eq, List.all_eq_true]
  refine ⟨⟨h, ?_⟩, fun x hx => ?_⟩
  · unfold lastOk
    cases hd : digs n with
    | nil => rfl
    | cons d r => have := digs_last n; rw [hd] at this; simp [List.getLastD] at this ⊢; exact decide_eq_true this
  · have := digs_rng n x hx
    exact inB_true this.1 this.2
theorem capD_ok (n : Nat) : natOkB (capD n) = true := by
  unfold capD
  split
  · exact digs_ok ‹_›
  · rfl

def natAddL (xs ys : List Int) : List Int := if natOkB xs && natOkB ys then capD (val xs + val ys) else []
theorem natAddL_len (xs ys : List Int) : (natAddL xs ys).length ≤ 1048576 := by unfold natAddL; split; have := capD_len (val xs + val ys); omega; simp
def natCmpI (xs ys : List Int) : Int := if natOkB xs && natOkB ys then cmpL xs ys else 0

section
variable (a : Option Addr) (ca : Nat) (xs : List Int) (b : Option Addr) (cb : Nat) (ys : List Int) (w : World) (ha : IntsAt w a ca xs) (hn : xs.length ≤ 1048576) (hb : IntsAt w b cb ys) (hm : ys.length ≤ 1048576)
include ha hn hb hm
set_option maxHeartbeats 1000000 in
theorem implNatAdd_any : Calls Tryd.prog 40 #[.slice a xs.length ca, .slice b ys.length cb] w fun e w' => ∃ p c, e = .returned (.slice p (natAddL xs ys).length c) ∧ OwnI w' w.heap.size w'.heap.size (.slice p (natAddL xs ys).length c) (natAddL xs ys) ∧ Below w.heap.size w w' := by
  have HA := Lib.hid ha
  have HB := Lib.hid hb
  clear ha hb
  by_cases h1 : natOkB xs = true
  · by_cases h2 : natOkB ys = true
    · have HE : Hid (natAddL xs ys = capD (val xs + val ys)) := by unfold Hid natAddL; rw [h1, h2]; rfl
      have h60 := ok_len h1
      have h61 := ok_len h2
      have HC : Hid ((digs (val xs + val ys)).length ≤ 1048576) := by
        have a1 := val_lt (ok_rng h1)
        have a2 := val_lt (ok_rng h2)
        have b1 := pw_mono h60
        have b2 := pw_mono h61
        have : (digs (val xs + val ys)).length ≤ 61 := digs_len_le (by rw [pw_succ]; omega)
        unfold Hid; omega
      have HX := Lib.hid (ok_digs h1)
      have HY := Lib.hid (ok_digs h2)
      go_enter Tryd.func40, Tryd.ntmps40
      go_wp2_with fail
      refine (implNatOk_q _ _ _ _ HA.out hn).mono ?_
      rintro e w' ⟨rfl, rfl⟩
      go_wp2_with fail
      refine (implNatOk_q _ _ _ _ HB.out hm).mono ?_
      rintro e w' ⟨rfl, rfl⟩
      go_wp2_with fail
      have hcall := natAdd_any a ca b cb (val xs) (val ys) w (by rw [HX.out]; exact HA.out) (by rw [HY.out]; exact HB.out) (by rw [HX.out]; exact hn) (by rw [HY.out]; exact hm)
      rw [HX.out, HY.out] at hcall
      refine hcall.mono ?_
      rintro e w1 ⟨v, rfl, ho, hb1⟩
      clear hcall
      obtain ⟨p, c, rfl, _⟩ := ho.form
      go_wp2_with fail
      refine (ifNat_any _ _ _ _ ho HC.out).mono ?_
      rintro e w' ⟨⟨v, rfl, ho'⟩, rfl⟩
      obtain ⟨p', c', rfl, hi⟩ := ho'.out
      rw [← HE.out] at hi
      rw [← HE.out]
      have HI := Lib.hid hi
      clear ho hi ho'
      go_wp2
      go_ret
      exact ⟨_, _, rfl, HI.out, hb1⟩
    · have HE : Hid (natAddL xs ys = []) := by unfold Hid natAddL; rw [Bool.eq_false_iff.2 h2]; simp
      have h2' := Bool.eq_false_iff.2 h2
      go_enter Tryd.func40, Tryd.ntmps40
      go_wp2_with fail
      refine (implNatOk_q _ _ _ _ HA.out hn).mono ?_
      rintro e w' ⟨rfl, rfl⟩
      go_wp2_with fail
      refine (implNatOk_q _ _ _ _ HB.out hm).mono ?_
      rintro e w' ⟨rfl, rfl⟩
      go_wp2
      go_ret
      exact ⟨none, 0, by rw [HE.out]; rfl, by rw [HE.out]; exact (own_nil _ _).toI, Below.refl _ _⟩
  · have HE : Hid (natAddL xs ys = []) := by unfold Hid natAddL; rw [Bool.eq_false_iff.2 h1]; simp
    have h1' := Bool.eq_false_iff.2 h1
    go_enter Tryd.func40, Tryd.ntmps40
    go_wp2_with fail
    refine (implNatOk_q _ _ _ _ HA.out hn).mono ?_
    rintro e w' ⟨rfl, rfl⟩
    go_wp2
    go_ret
    exact ⟨none, 0, by rw [HE.out]; rfl, by rw [HE.out]; exact (own_nil _ _).toI, Below.refl _ _⟩

set_option maxHeartbeats 1000000 in
theorem implNatCmp_any : Calls Tryd.prog 39 #[.slice a xs.length ca, .slice b ys.length cb] w fun e w' => e = .returned (.int .i64 (natCmpI xs ys)) ∧ Below w.heap.size w w' := by
  have HA := Lib.hid ha
  have HB := Lib.hid hb
  clear ha hb
  by_cases h1 : natOkB xs = true
  · by_cases h2 : natOkB ys = true
    · have HE : Hid (natCmpI xs ys = cmpL xs ys) := by unfold Hid natCmpI; rw [h1, h2]; rfl
      go_enter Tryd.func39, Tryd.ntmps39
      go_wp2_with fail
      refine (implNatOk_q _ _ _ _ HA.out hn).mono ?_
      rintro e w' ⟨rfl, rfl⟩
      go_wp2_with fail
      refine (implNatOk_q _ _ _ _ HB.out hm).mono ?_
      rintro e w' ⟨rfl, rfl⟩
      go_wp2_with fail
      refine (natCmp_any _ _ _ _ _ _ _ HA.out HB.out hn hm).mono ?_
      rintro e w1 ⟨rfl, hb1⟩
      go_wp2
      go_ret
      exact ⟨ret_int HE.out.symm, hb1⟩
    · have HE : Hid (natCmpI xs ys = 0) := by unfold Hid natCmpI; rw [Bool.eq_false_iff.2 h2]; simp
      have h2' := Bool.eq_false_iff.2 h2
      go_enter Tryd.func39, Tryd.ntmps39
      go_wp2_with fail
      refine (implNatOk_q _ _ _ _ HA.out hn).mono ?_
      rintro e w' ⟨rfl, rfl⟩
      go_wp2_with fail
      refine (implNatOk_q _ _ _ _ HB.out hm).mono ?_
      rintro e w' ⟨rfl, rfl⟩
      go_wp2
      go_ret
      exact ⟨ret_int HE.out.symm, Below.refl _ _⟩
  · have HE : Hid (natCmpI xs ys = 0) := by unfold Hid natCmpI; rw [Bool.eq_false_iff.2 h1]; simp
    have h1' := Bool.eq_false_iff.2 h1
    go_enter Tryd.func39, Tryd.ntmps39
    go_wp2_with fail
    refine (implNatOk_q _ _ _ _ HA.out hn).mono ?_
    rintro e w' ⟨rfl, rfl⟩
    go_wp2
    go_ret
    exact ⟨ret_int HE.out.symm, Below.refl _ _⟩
end
end Go.Proofs.YtjklefkkdaelnaaDoor
