/- Taking zeros off a number's end; the copy of a slice. -/
import Derived.Test.YtgbnocfkkhngmaaDoorLaws1
import Derived.Test.YtgbnocfkkhngmaaDoorAppend
import Derived.Test.YtgbnocfkkhngmaaDoorNum
namespace Go.Proofs.YtgbnocfkkhngmaaDoor
set_option linter.unusedVariables false
set_option linter.unusedSimpArgs false
open Go.RowKit

theorem last_take {xs : List Int} {k : Nat} (hk : k < xs.length) (h : xs[k] ≠ 0) : (xs.take (k + 1)).getLastD 1 ≠ 0 := by
  rw [List.take_succ_eq_append_getElem hk, List.getLastD_eq_getLast?, List.getLast?_concat]
  simpa using h

theorem val_zeros : ∀ (xs : List Int), (∀ x ∈ xs, x = 0) → val xs = 0
  | [], _ => rfl
  | d :: r, h => by
    have h1 := h d (List.mem_cons_self ..)
    have h2 := val_zeros r fun x hx => h x (List.mem_cons_of_mem _ hx)
    simp [val, h1, h2]

/-- what is left where the zeros at the end are taken off -/
theorem trim_take {xs : List Int} (hr : Rng xs) {k : Nat} (hk : k ≤ xs.length) (hz : ∀ x ∈ xs.drop k, x = 0) (hl : k = 0 ∨ ∃ h : k - 1 < xs.length, xs[k - 1] ≠ 0) : xs.take k = digs (val xs) := by
  have e : val xs = val (xs.take k) := by
    conv => lhs; rw [← List.take_append_drop k xs, val_append, val_zeros _ hz]
    simp
  rw [e, digs_val (hr.take k)]
  rcases hl with rfl | ⟨h, hl⟩
  · simp
  · rcases Nat.eq_zero_or_pos k with rfl | hp
    · simp
    · have := last_take h hl
      rwa [show k - 1 + 1 = k by omega] at this

theorem drop_zero {xs : List Int} {k : Nat} (hk : k < xs.length) (h0 : xs[k] = 0) (hz : ∀ x ∈ xs.drop (k + 1), x = 0) : ∀ x ∈ xs.drop k, x = 0 := by
  rw [List.drop_eq_getElem_cons hk]
  intro x hx
  cases hx with
  | head => exact h0
  | tail _ hx => exact hz x hx

theorem own_take {w : World} {lo : Nat} {a : Option Addr} {cap : Nat} {xs : List Int} (h : Own 3 w lo (.slice a xs.length cap) xs) {k : Nat} (hk : k ≤ xs.length) : Own 3 w lo (.slice a (xs.take k).length cap) (xs.take k) := by
  refine ⟨fun x hx => h.1 x (List.mem_of_mem_take hx), by simp, ?_⟩
  rcases h.2.2 with ⟨hv, h0⟩ | ⟨g, cap', cur, hv, hb, hg, hnc, hcm, hcs, ht⟩
  · left
    simp only [Value.slice.injEq] at hv
    obtain ⟨rfl, h1, rfl⟩ := hv
    have : (xs.take k).length = 0 := by simp; omega
    exact ⟨by rw [this], this⟩
  · right
    simp only [Value.slice.injEq, true_and] at hv
    obtain ⟨rfl, rfl⟩ := hv
    refine ⟨g, cap, cur, rfl, hb, hg, by simp; omega, hcm, hcs, ?_⟩
    rw [List.map_take, ← ht]
    simp [List.take_take]
theorem OwnI.take {w : World} {lo hi : Nat} {a : Option Addr} {cap : Nat} {xs : List Int} (h : OwnI w lo hi (.slice a xs.length cap) xs) {k : Nat} (hk : k ≤ xs.length) : OwnI w lo hi (.slice a (xs.take k).length cap) (xs.take k) :=
  ⟨own_take h.1 hk, fun q hq => h.2 q (by cases a with | none => cases hq | some b => exact hq)⟩

/-- a number's digits, if they are not more than 60 -/
def capD (n : Nat) : List Int := if (digs n).length ≤ 60 then digs n else []
theorem capD_len (n : Nat) : (capD n).length ≤ 60 := by unfold capD; split <;> simp_all
theorem capD_rng (n : Nat) : Rng (capD n) := by unfold capD; split; exact digs_rng n; exact Rng.nil

end Go.Proofs.YtgbnocfkkhngmaaDoor
