/- NatAdd and NatCmp whole. -/
import Derived.Test.YtgbnocfkkhngmaaDoorAdd
import Derived.Test.YtgbnocfkkhngmaaDoorCmp
namespace Go.Proofs.YtgbnocfkkhngmaaDoor
set_option linter.unusedVariables false
set_option linter.unusedSimpArgs false
open Go.RowKit

theorem ok_rng {xs : List Int} (h : natOkB xs = true) : Rng xs := by
  unfold natOkB at h
  simp only [Bool.and_eq_true, List.all_eq_true] at h
  intro x hx
  have := h.2 x hx
  unfold digB inB at this
  simp at this
  exact this
theorem ok_len {xs : List Int} (h : natOkB xs = true) : xs.length ≤ 60 := by
  unfold natOkB at h
  simp only [Bool.and_eq_true, decide_eq_true_eq] at h
  exact h.1.1
theorem ok_digs {xs : List Int} (h : natOkB xs = true) : digs (val xs) = xs := by
  apply digs_val (ok_rng h)
  unfold natOkB lastOk at h
  simp only [Bool.and_eq_true, Bool.or_eq_true, decide_eq_true_eq] at h
  rcases h.1.2 with h | h
  · have : xs = [] := by simpa using h
    subst this; simp
  · cases xs with
    | nil => simp
    | cons d r => simpa [List.getLastD] using h
theorem digs_ok {n : Nat} (h : (digs n).length ≤ 60) : natOkB (digs n) = true := by
  unfold natOkB
  simp only [Bool.and_eq_true, decide_eq_true_eq, List.all_eq_true]
  refine ⟨⟨h, ?_⟩, fun x hx => ?_⟩
  · unfold lastOk
    cases hd : digs n with
    | nil => rfl
    | cons d r => have := digs_last n; rw [hd] at this; simp [List.getLastD] at this ⊢; exact decide_eq_true this
  · have := digs_rng n x hx
    exact inB_true this.1 this.2
theorem capD_ok (n : Nat) : natOkB (capD n) = true := by
  unfold capD
  split
  · exact digs_ok ‹_›
  · rfl

def natAddL (xs ys : List Int) : List Int := if natOkB xs && natOkB ys then capD (val xs + val ys) else []
theorem natAddL_len (xs ys : List Int) : (natAddL xs ys).length ≤ 1048576 := by unfold natAddL; split; have := capD_len (val xs + val ys); omega; simp
def natCmpI (xs ys : List Int) : Int := if natOkB xs && natOkB ys then cmpL xs ys else 0

section
variable (a : Option Addr) (ca : Nat) (xs : List Int) (b : Option Addr) (cb : Nat) (ys : List Int) (w : World) (ha : IntsAt w a ca xs) (hn : xs.length ≤ 1048576) (hb : IntsAt w b cb ys) (hm : ys.length ≤ 1048576)
include ha hn hb hm
end
end Go.Proofs.YtgbnocfkkhngmaaDoor
