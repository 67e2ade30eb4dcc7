/- The sum of naturals. -/
import Derived.Test.YtgbnocfkkhngmaaDoorTrim
import Derived.Test.YtgbnocfkkhngmaaDoorAddLaw
namespace Go.Proofs.YtgbnocfkkhngmaaDoor
set_option linter.unusedVariables false
set_option linter.unusedSimpArgs false
open Go.RowKit

theorem own_cap (w : World) (n : Nat) (hn : n ≤ 16777216) : Own 3 (w.alloc (.cells (madeCells #[.int .i64 0] n) 3)) w.heap.size (.slice (some ⟨w.heap.size, 0, none⟩) 0 n) [] :=
  ⟨by simp, World.ownsRow_made (base := w.heap.size) (size := 1) (e := 3) w _ n (Nat.le_refl _) (by unfold maxLen; omega) (by simp [size_madeCells])⟩

/-- the sum where the first number has no fewer digits -/
def sumEnd (ds : List Int) (m n : Nat) : Prop := digs (m + n) = ds

theorem sum_end {ds : List Int} {m n k : Nat} {q : Int} (hk : k = (digs m).length) (hkn : (digs n).length ≤ k) (hq0 : 0 ≤ q) (hq1 : q ≤ 1) (hl : ds.length = k) (hr : Rng ds) (h : val ds + pw k * q.toNat = m + n) :
    digs (m + n) = if 0 < q then ds ++ [q] else ds := by
  split
  · rename_i hq
    obtain rfl : q = 1 := by omega
    have hv : val (ds ++ [1]) = m + n := by rw [val_append, hl]; simpa [val] using h
    rw [← hv]
    apply digs_of_len (rng_snoc hr (by omega) (by omega))
    right
    rw [hv, List.length_append, hl]
    simp at h ⊢
    omega
  · have hv : val ds = m + n := by rw [show q.toNat = 0 by omega] at h; simpa using h
    rw [← hv]
    apply digs_of_len hr
    by_cases h0 : m = 0
    · left
      rw [h0, digs_zero] at hk
      exact List.eq_nil_of_length_eq_zero (by simp at hk; omega)
    · right
      have := pw_le_digs (n := m) (by omega)
      rw [hv, hl, hk]
      omega

end Go.Proofs.YtgbnocfkkhngmaaDoor
