/- Words for slices of ints that a call reads or makes. -/
import Derived.Test.YtjklefkkdaelnaaDoorRows
import Derived.WalkKit
import Derived.WalkSpells
import Derived.WalkLawsBesides
import Derived.Lib.Hide
import Derived.Deep.QuietTactic
import Derived.BigQuiet
namespace Go.Proofs.YtjklefkkdaelnaaDoor
set_option linter.unusedVariables false
set_option linter.unusedSimpArgs false
open Go.RowKit

theorem ret_bool {a b : Bool} (h : a = b) : Ending.returned (.bool a) = .returned (.bool b) := by rw [h]
theorem ret_int {k : IntKind} {a b : Int} (h : a = b) : Ending.returned (.int k a) = .returned (.int k b) := by rw [h]

def iv (x : Int) : Value := .int .i64 x
def In64 (x : Int) : Prop := -9223372036854775808 ≤ x ∧ x ≤ 9223372036854775807

def inB (n lo hi : Int) : Bool := decide (lo ≤ n) && decide (n ≤ hi)
theorem inB_true {n lo hi : Int} (h1 : lo ≤ n) (h2 : n ≤ hi) : inB n lo hi = true := by simp [inB, h1, h2]
theorem inB_lo {n lo hi : Int} (h1 : n < lo) : inB n lo hi = false := by simp [inB]; omega
theorem inB_hi {n lo hi : Int} (h1 : hi < n) : inB n lo hi = false := by simp [inB]; omega

/-- The parts of a slice value of ints, of length xs.length, that reads as xs in w. -/
structure IntsAt (w : World) (a : Option Addr) (cap : Nat) (xs : List Int) : Prop where
  fit : ∀ x ∈ xs, In64 x
  room : xs.length ≤ cap
  small : cap ≤ maxLen
  nil0 : a = none → cap = 0
  at_ : xs = [] ∨ ∃ b off, a = some ⟨b, off, none⟩ ∧ b < w.heap.size ∧ ∀ j, j < xs.length → w.cell? ⟨b, off + j, none⟩ = some (.int .i64 (xs.getD j 0))

section
variable {w w' : World} {a : Option Addr} {cap : Nat} {xs : List Int}

theorem IntsAt.below (h : IntsAt w a cap xs) (hb : Below w.heap.size w w') : IntsAt w' a cap xs := by
  refine ⟨h.fit, h.room, h.small, h.nil0, ?_⟩
  rcases h.at_ with h | ⟨b, off, ha, hlt, hc⟩
  · exact .inl h
  · exact .inr ⟨b, off, ha, Nat.lt_of_lt_of_le hlt hb.size, fun j hj => by rw [hb.cell (p := ⟨b, off + j, none⟩) hlt]; exact hc j hj⟩

/-- read on where all blocks but one row are kept -/
theorem IntsAt.grown {row : Option Nat} (h : IntsAt w a cap xs) (hg : w.grownBy w' row) (hne : xs = [] ∨ a.map (·.block) ≠ row) : IntsAt w' a cap xs := by
  refine ⟨h.fit, h.room, h.small, h.nil0, ?_⟩
  rcases h.at_ with h | ⟨b, off, ha, hlt, hc⟩
  · exact .inl h
  · rcases hne with hne | hne
    · exact .inl hne
    · subst ha
      refine .inr ⟨b, off, rfl, Nat.lt_of_lt_of_le hlt hg.size, fun j hj => ?_⟩
      rw [World.cell?_of_block (w := w) (hg.block b hlt (by simpa using hne))]
      exact hc j hj

theorem IntsAt.get (h : IntsAt w a cap xs) {k : Nat} (hk : k < xs.length) :
    ∃ b off, a = some ⟨b, off, none⟩ ∧ w.cell? ⟨b, off + k, none⟩ = some (.int .i64 xs[k]) := by
  rcases h.at_ with h | ⟨b, off, ha, hlt, hc⟩
  · subst h; simp at hk
  · exact ⟨b, off, ha, by have := hc k hk; simpa [hk] using this⟩

theorem IntsAt.in64 (h : IntsAt w a cap xs) {k : Nat} (hk : k < xs.length) : -9223372036854775808 ≤ xs[k] ∧ xs[k] ≤ 9223372036854775807 := h.fit _ (List.getElem_mem hk)

theorem IntsAt.len63 (h : IntsAt w a cap xs) : xs.length ≤ 9223372036854775807 := by have h1 := h.room; have h2 := h.small; unfold maxLen at h2; omega

theorem IntsAt.nil (w : World) : IntsAt w none 0 [] := ⟨by simp, Nat.zero_le _, Nat.zero_le _, fun _ => rfl, .inl rfl⟩

/-- a shorter slice at the same place -/
theorem IntsAt.take (h : IntsAt w a cap xs) (n : Nat) : IntsAt w a cap (xs.take n) := by
  refine ⟨fun x hx => h.fit x (List.mem_of_mem_take hx), Nat.le_trans (List.length_take_le' _ _) h.room, h.small, h.nil0, ?_⟩
  rcases h.at_ with h | ⟨b, off, ha, hlt, hc⟩
  · exact .inl (by simp [h])
  · refine .inr ⟨b, off, ha, hlt, fun j hj => ?_⟩
    simp only [List.length_take] at hj
    rw [hc j (by omega)]
    simp [show j < n by omega]
end

/-- v is a slice of ints of the call's own: nil, or at the head of a row from block 'base' on. -/
def Own (e : TypeId) (w : World) (base : Nat) (v : Value) (xs : List Int) : Prop :=
  (∀ x ∈ xs, In64 x) ∧ w.ownsRow base e 1 v xs.length (xs.map (Value.int .i64))

section
variable {w w' : World} {e : TypeId} {base : Nat} {a : Option Addr} {len cap : Nat} {v : Value} {xs : List Int}

theorem ownsRow_form {n : Nat} {vs : List Value} (h : w.ownsRow base e 1 v n vs) : ∃ a cap, v = .slice a n cap ∧ n ≤ cap ∧ cap ≤ maxLen ∧ (a = none → cap = 0) := by
  rcases h.2 with ⟨h, h0⟩ | ⟨g, cap, _, h, _, _, h1, h2, _⟩
  · exact ⟨none, 0, by rw [h, h0], by omega, by unfold maxLen; omega, fun _ => rfl⟩
  · exact ⟨_, cap, h, h1, h2, fun h => by cases h⟩

theorem Own.form (h : Own e w base v xs) : ∃ a cap, v = .slice a xs.length cap ∧ IntsAt w a cap xs := by
  obtain ⟨a, cap, rfl, h1, h2, h3⟩ := ownsRow_form h.2
  refine ⟨a, cap, rfl, h.1, h1, h2, h3, ?_⟩
  rcases h.2.2 with ⟨_, h0⟩ | ⟨g, cap', cur, hv, hb, hg, hnc, hcm, hcs, ht⟩
  · exact .inl (List.eq_nil_of_length_eq_zero h0)
  · simp only [Value.slice.injEq, true_and] at hv
    obtain ⟨rfl, rfl⟩ := hv
    refine .inr ⟨g, 0, rfl, (Array.getElem?_eq_some_iff.1 hg).1, fun j hj => ?_⟩
    have := h.2.cellAt j (by omega)
    rw [Nat.zero_add, this]
    simp [hj]

theorem Own.ints (h : Own e w base (.slice a xs.length cap) xs) : IntsAt w a cap xs := by
  obtain ⟨a', cap', hv, h⟩ := h.form
  simp only [Value.slice.injEq, true_and] at hv
  obtain ⟨rfl, rfl⟩ := hv
  exact h

theorem ownsRow_below {n : Nat} {vs : List Value} (h : w.ownsRow base e 1 v n vs) (hb : Below w.heap.size w w') : w'.ownsRow base e 1 v n vs := by
  refine ⟨h.1, ?_⟩
  rcases h.2 with hn | ⟨g, cap, cur, rfl, hbg, hg, rest⟩
  · exact .inl hn
  · exact .inr ⟨g, cap, cur, rfl, hbg, by rw [hb.block g (Array.getElem?_eq_some_iff.1 hg).1]; exact hg, rest⟩

theorem ownsRow_base {n base' : Nat} {vs : List Value} (h : w.ownsRow base e 1 v n vs) (hb : base' ≤ base) : w.ownsRow base' e 1 v n vs := by
  refine ⟨h.1, ?_⟩
  rcases h.2 with hn | ⟨g, cap, cur, rfl, hbg, hg, rest⟩
  · exact .inl hn
  · exact .inr ⟨g, cap, cur, rfl, Nat.le_trans hb hbg, hg, rest⟩

theorem Own.below (h : Own e w base v xs) (hb : Below w.heap.size w w') : Own e w' base v xs := ⟨h.1, ownsRow_below h.2 hb⟩
theorem Own.rebase {base' : Nat} (h : Own e w base v xs) (hb : base' ≤ base) : Own e w base' v xs := ⟨h.1, ownsRow_base h.2 hb⟩

/-- what was there when the call began lies in other blocks -/
theorem Own.apart (h : Own e w base v xs) {k : Nat} (hk : k < base) : some k ≠ v.ownBlock := by
  intro hh
  have := (h.2.lt k hh.symm).1
  omega
end


theorem bstep {c w w' : World} (h : Below c.heap.size c w) (b : Below w.heap.size w w') : Below c.heap.size c w' := h.trans (b.mono h.size)
end Go.Proofs.YtjklefkkdaelnaaDoor
