/- BigIntFloorDiv. -/
import Derived.Test.YtcbamiablkbeoaaDivS
import Derived.Test.YtcbamiablkbeoaaLaws2
import Derived.Test.YtcbamiablkbeoaaBigAdd
import Derived.Test.YtcbamiablkbeoaaNatSub
import Derived.Test.YtcbamiablkbeoaaBigOf
namespace Go.Proofs.Ytcbamiablkbeoaa
set_option linter.unusedVariables false
set_option linter.unusedSimpArgs false
open Go.RowKit
def fdB (n : Bool) (xs ms : List Int) : Bool := bigOkB n xs && natOkB ms && decide (0 < ms.length)
def fdUp (n : Bool) (xs ms : List Int) : Bool := n && decide (0 < val xs % val ms)
def fdQ (n : Bool) (xs ms : List Int) : BI := if fdB n xs ms then (if fdUp n xs ms then mkBI true (digs (val xs / val ms + 1)) else mkBI n (digs (val xs / val ms))) else ⟨false, []⟩
def fdR (n : Bool) (xs ms : List Int) : List Int := if fdB n xs ms then (if fdUp n xs ms then digs (val ms - val xs % val ms) else digs (val xs % val ms)) else []
theorem fd_no {n : Bool} {xs ms : List Int} (h : fdB n xs ms = false) : fdQ n xs ms = ⟨false, []⟩ ∧ fdR n xs ms = [] := by unfold fdQ fdR; rw [h]; exact ⟨rfl, rfl⟩
theorem fd_up {n : Bool} {xs ms : List Int} (h : fdB n xs ms = true) (h2 : fdUp n xs ms = true) : fdQ n xs ms = mkBI true (digs (val xs / val ms + 1)) ∧ fdR n xs ms = digs (val ms - val xs % val ms) := by unfold fdQ fdR; rw [h, h2]; exact ⟨rfl, rfl⟩
theorem fd_down {n : Bool} {xs ms : List Int} (h : fdB n xs ms = true) (h2 : fdUp n xs ms = false) : fdQ n xs ms = mkBI n (digs (val xs / val ms)) ∧ fdR n xs ms = digs (val xs % val ms) := by unfold fdQ fdR; rw [h, h2]; exact ⟨rfl, rfl⟩
/-- the raised quotient has no more than 60 digits -/
theorem fd_fit {xs ms : List Int} (h1 : natOkB xs = true) (hr : 0 < val xs % val ms) (h0 : 0 < val ms) : (digs (val xs / val ms + 1)).length ≤ 60 := by
  have a1 := val_lt (ok_rng h1)
  have a2 := pw_mono (ok_len h1)
  have h2 : 2 ≤ val ms := by
    rcases Nat.lt_or_ge (val ms) 2 with h | h
    · have : val ms = 1 := by omega
      rw [this, Nat.mod_one] at hr; omega
    · exact h
  have h3 : val xs / val ms ≤ val xs / 2 := Nat.div_le_div_left h2 (by omega)
  have h4 : 2 ≤ pw 60 := by unfold pw; decide
  exact digs_len_le (by omega)
theorem fd_len (n : Bool) (xs ms : List Int) : (fdQ n xs ms).mag.length ≤ 1048576 ∧ (fdR n xs ms).length ≤ 1048576 := by
  by_cases h : fdB n xs ms = true
  · have h' := h
    unfold fdB at h'
    simp only [Bool.and_eq_true, decide_eq_true_eq] at h'
    have h1 := bigOk_nat h'.1.1
    have h0 : 0 < val ms := by have := ok_digs h'.1.2; have h3 := h'.2; rw [← this, digs_len_pos] at h3; exact h3
    have hd := div_bounds (ys := ms) (ok_rng h1) (ok_len h1)
    by_cases h2 : fdUp n xs ms = true
    · rw [(fd_up h h2).1, (fd_up h h2).2]
      have hr : 0 < val xs % val ms := by unfold fdUp at h2; simp only [Bool.and_eq_true, decide_eq_true_eq] at h2; exact h2.2
      have a := fd_fit h1 hr h0
      have a2 := val_lt (ok_rng h'.1.2)
      have a3 := pw_mono (ok_len h'.1.2)
      have a4 : (digs (val ms - val xs % val ms)).length ≤ 60 := digs_len_le (by omega)
      exact ⟨by show (digs _).length ≤ _; omega, by omega⟩
    · have h2' := Bool.eq_false_iff.2 h2
      rw [(fd_down h h2').1, (fd_down h h2').2]
      exact ⟨by show (digs _).length ≤ _; omega, by omega⟩
  · rw [(fd_no (Bool.eq_false_iff.2 h)).1, (fd_no (Bool.eq_false_iff.2 h)).2]; simp
theorem big_two {w w2 : World} {lo hi R : Nat} {u v : Value} {xs ys : List Int} (hR : w.heap.size ≤ R) (hlo : R < lo) (h : Two w2 lo hi u v xs ys) (hh : hi ≤ w2.heap.size) (b : Below w.heap.size w w2) (u0 u1 : Value) :
    Two ((w2.setCell ⟨R, 0, none⟩ u0).setCell ⟨R, 1, none⟩ u1) w.heap.size ((w2.setCell ⟨R, 0, none⟩ u0).setCell ⟨R, 1, none⟩ u1).heap.size u v xs ys ∧ Below w.heap.size w ((w2.setCell ⟨R, 0, none⟩ u0).setCell ⟨R, 1, none⟩ u1) :=
  ⟨((h.put hlo).put hlo).mono (by omega) (by simpa using hh), below_put (below_put b hR) hR⟩
theorem one_at (w : World) : IntsAt (w.alloc (.cells #[.int .i64 1] 3)) (some ⟨w.heap.size, 0, none⟩) 1 [1] := by
  have := ints_lit w [1] (fun x hx => by simp at hx; rw [hx]; unfold In64; omega) (by simp [maxLen])
  simpa using this
end Go.Proofs.Ytcbamiablkbeoaa
