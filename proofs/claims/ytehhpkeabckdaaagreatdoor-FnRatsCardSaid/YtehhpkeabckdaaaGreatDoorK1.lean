/- Joined: Base, Num, AddLaw, Help, Append, Mem, Small, Laws1. -/
import Derived.Test.YtehhpkeabckdaaaGreatDoorRows
import Derived.WalkKit
import Derived.WalkSpells
import Derived.WalkLawsBesides
import Derived.Lib.Hide
import Derived.Deep.QuietTactic
import Derived.BigQuiet
namespace Go.Proofs.YtehhpkeabckdaaaGreatDoor
set_option linter.unusedVariables false
set_option linter.unusedSimpArgs false
section
open Go.RowKit

theorem ret_bool {a b : Bool} (h : a = b) : Ending.returned (.bool a) = .returned (.bool b) := by rw [h]
theorem ret_int {k : IntKind} {a b : Int} (h : a = b) : Ending.returned (.int k a) = .returned (.int k b) := by rw [h]

def iv (x : Int) : Value := .int .i64 x
def In64 (x : Int) : Prop := -9223372036854775808 ≤ x ∧ x ≤ 9223372036854775807

def inB (n lo hi : Int) : Bool := decide (lo ≤ n) && decide (n ≤ hi)
theorem inB_true {n lo hi : Int} (h1 : lo ≤ n) (h2 : n ≤ hi) : inB n lo hi = true := by simp [inB, h1, h2]
theorem inB_lo {n lo hi : Int} (h1 : n < lo) : inB n lo hi = false := by simp [inB]; omega
theorem inB_hi {n lo hi : Int} (h1 : hi < n) : inB n lo hi = false := by simp [inB]; omega

/-- The parts of a slice value of ints, of length xs.length, that reads as xs in w. -/
structure IntsAt (w : World) (a : Option Addr) (cap : Nat) (xs : List Int) : Prop where
  fit : ∀ x ∈ xs, In64 x
  room : xs.length ≤ cap
  small : cap ≤ maxLen
  nil0 : a = none → cap = 0
  at_ : xs = [] ∨ ∃ b off, a = some ⟨b, off, none⟩ ∧ b < w.heap.size ∧ ∀ j, j < xs.length → w.cell? ⟨b, off + j, none⟩ = some (.int .i64 (xs.getD j 0))

section
variable {w w' : World} {a : Option Addr} {cap : Nat} {xs : List Int}

theorem IntsAt.below (h : IntsAt w a cap xs) (hb : Below w.heap.size w w') : IntsAt w' a cap xs := by
  refine ⟨h.fit, h.room, h.small, h.nil0, ?_⟩
  rcases h.at_ with h | ⟨b, off, ha, hlt, hc⟩
  · exact .inl h
  · exact .inr ⟨b, off, ha, Nat.lt_of_lt_of_le hlt hb.size, fun j hj => by rw [hb.cell (p := ⟨b, off + j, none⟩) hlt]; exact hc j hj⟩

/-- read on where all blocks but one row are kept -/
theorem IntsAt.grown {row : Option Nat} (h : IntsAt w a cap xs) (hg : w.grownBy w' row) (hne : xs = [] ∨ a.map (·.block) ≠ row) : IntsAt w' a cap xs := by
  refine ⟨h.fit, h.room, h.small, h.nil0, ?_⟩
  rcases h.at_ with h | ⟨b, off, ha, hlt, hc⟩
  · exact .inl h
  · rcases hne with hne | hne
    · exact .inl hne
    · subst ha
      refine .inr ⟨b, off, rfl, Nat.lt_of_lt_of_le hlt hg.size, fun j hj => ?_⟩
      rw [World.cell?_of_block (w := w) (hg.block b hlt (by simpa using hne))]
      exact hc j hj

theorem IntsAt.get (h : IntsAt w a cap xs) {k : Nat} (hk : k < xs.length) :
    ∃ b off, a = some ⟨b, off, none⟩ ∧ w.cell? ⟨b, off + k, none⟩ = some (.int .i64 xs[k]) := by
  rcases h.at_ with h | ⟨b, off, ha, hlt, hc⟩
  · subst h; simp at hk
  · exact ⟨b, off, ha, by have := hc k hk; simpa [hk] using this⟩

theorem IntsAt.in64 (h : IntsAt w a cap xs) {k : Nat} (hk : k < xs.length) : -9223372036854775808 ≤ xs[k] ∧ xs[k] ≤ 9223372036854775807 := h.fit _ (List.getElem_mem hk)

theorem IntsAt.len63 (h : IntsAt w a cap xs) : xs.length ≤ 9223372036854775807 := by have h1 := h.room; have h2 := h.small; unfold maxLen at h2; omega

theorem IntsAt.nil (w : World) : IntsAt w none 0 [] := ⟨by simp, Nat.zero_le _, Nat.zero_le _, fun _ => rfl, .inl rfl⟩

/-- a shorter slice at the same place -/
theorem IntsAt.take (h : IntsAt w a cap xs) (n : Nat) : IntsAt w a cap (xs.take n) := by
  refine ⟨fun x hx => h.fit x (List.mem_of_mem_take hx), Nat.le_trans (List.length_take_le' _ _) h.room, h.small, h.nil0, ?_⟩
  rcases h.at_ with h | ⟨b, off, ha, hlt, hc⟩
  · exact .inl (by simp [h])
  · refine .inr ⟨b, off, ha, hlt, fun j hj => ?_⟩
    simp only [List.length_take] at hj
    rw [hc j (by omega)]
    simp [show j < n by omega]
end

/-- v is a slice of ints of the call's own: nil, or at the head of a row from block 'base' on. -/
def Own (e : TypeId) (w : World) (base : Nat) (v : Value) (xs : List Int) : Prop :=
  (∀ x ∈ xs, In64 x) ∧ w.ownsRow base e 1 v xs.length (xs.map (Value.int .i64))

section
variable {w w' : World} {e : TypeId} {base : Nat} {a : Option Addr} {len cap : Nat} {v : Value} {xs : List Int}

theorem ownsRow_form {n : Nat} {vs : List Value} (h : w.ownsRow base e 1 v n vs) : ∃ a cap, v = .slice a n cap ∧ n ≤ cap ∧ cap ≤ maxLen ∧ (a = none → cap = 0) := by
  rcases h.2 with ⟨h, h0⟩ | ⟨g, cap, _, h, _, _, h1, h2, _⟩
  · exact ⟨none, 0, by rw [h, h0], by omega, by unfold maxLen; omega, fun _ => rfl⟩
  · exact ⟨_, cap, h, h1, h2, fun h => by cases h⟩

theorem Own.form (h : Own e w base v xs) : ∃ a cap, v = .slice a xs.length cap ∧ IntsAt w a cap xs := by
  obtain ⟨a, cap, rfl, h1, h2, h3⟩ := ownsRow_form h.2
  refine ⟨a, cap, rfl, h.1, h1, h2, h3, ?_⟩
  rcases h.2.2 with ⟨_, h0⟩ | ⟨g, cap', cur, hv, hb, hg, hnc, hcm, hcs, ht⟩
  · exact .inl (List.eq_nil_of_length_eq_zero h0)
  · simp only [Value.slice.injEq, true_and] at hv
    obtain ⟨rfl, rfl⟩ := hv
    refine .inr ⟨g, 0, rfl, (Array.getElem?_eq_some_iff.1 hg).1, fun j hj => ?_⟩
    have := h.2.cellAt j (by omega)
    rw [Nat.zero_add, this]
    simp [hj]

theorem Own.ints (h : Own e w base (.slice a xs.length cap) xs) : IntsAt w a cap xs := by
  obtain ⟨a', cap', hv, h⟩ := h.form
  simp only [Value.slice.injEq, true_and] at hv
  obtain ⟨rfl, rfl⟩ := hv
  exact h

theorem ownsRow_below {n : Nat} {vs : List Value} (h : w.ownsRow base e 1 v n vs) (hb : Below w.heap.size w w') : w'.ownsRow base e 1 v n vs := by
  refine ⟨h.1, ?_⟩
  rcases h.2 with hn | ⟨g, cap, cur, rfl, hbg, hg, rest⟩
  · exact .inl hn
  · exact .inr ⟨g, cap, cur, rfl, hbg, by rw [hb.block g (Array.getElem?_eq_some_iff.1 hg).1]; exact hg, rest⟩

theorem ownsRow_base {n base' : Nat} {vs : List Value} (h : w.ownsRow base e 1 v n vs) (hb : base' ≤ base) : w.ownsRow base' e 1 v n vs := by
  refine ⟨h.1, ?_⟩
  rcases h.2 with hn | ⟨g, cap, cur, rfl, hbg, hg, rest⟩
  · exact .inl hn
  · exact .inr ⟨g, cap, cur, rfl, Nat.le_trans hb hbg, hg, rest⟩

theorem Own.below (h : Own e w base v xs) (hb : Below w.heap.size w w') : Own e w' base v xs := ⟨h.1, ownsRow_below h.2 hb⟩
theorem Own.rebase {base' : Nat} (h : Own e w base v xs) (hb : base' ≤ base) : Own e w base' v xs := ⟨h.1, ownsRow_base h.2 hb⟩

/-- what was there when the call began lies in other blocks -/
theorem Own.apart (h : Own e w base v xs) {k : Nat} (hk : k < base) : some k ≠ v.ownBlock := by
  intro hh
  have := (h.2.lt k hh.symm).1
  omega
end


theorem bstep {c w w' : World} (h : Below c.heap.size c w) (b : Below w.heap.size w w') : Below c.heap.size c w' := h.trans (b.mono h.size)
end
section

def digs (n : Nat) : List Int := if h : n = 0 then [] else ((n % 1000000000 : Nat) : Int) :: digs (n / 1000000000)
termination_by n
decreasing_by exact Nat.div_lt_self (Nat.pos_of_ne_zero h) (by decide)

theorem digs_zero : digs 0 = [] := by rw [digs]; simp
theorem digs_pos {n : Nat} (h : 0 < n) : digs n = ((n % 1000000000 : Nat) : Int) :: digs (n / 1000000000) := by
  conv => lhs; rw [digs]
  rw [dif_neg (by omega)]

def val : List Int → Nat
  | [] => 0
  | d :: r => d.toNat + 1000000000 * val r

theorem val_digs (n : Nat) : val (digs n) = n := by
  induction n using Nat.strongRecOn with
  | _ n ih =>
    by_cases h : n = 0
    · subst h; rw [digs_zero]; rfl
    · rw [digs_pos (by omega), val, ih _ (by omega)]; omega

/-- each digit is one -/
def Rng (xs : List Int) : Prop := ∀ x ∈ xs, 0 ≤ x ∧ x ≤ 999999999
theorem Rng.nil : Rng [] := by simp [Rng]
theorem Rng.cons {d : Int} {xs : List Int} (h : 0 ≤ d ∧ d ≤ 999999999) (hx : Rng xs) : Rng (d :: xs) := by
  intro x hm; cases hm with
  | head => exact h
  | tail _ h2 => exact hx x h2
theorem Rng.app {xs ys : List Int} (hx : Rng xs) (hy : Rng ys) : Rng (xs ++ ys) := fun x hm => (List.mem_append.1 hm).elim (hx x) (hy x)
theorem Rng.in64 {xs : List Int} (h : Rng xs) : ∀ x ∈ xs, In64 x := fun x hx => by have := h x hx; unfold In64; omega
theorem Rng.at {xs : List Int} (h : Rng xs) {k : Nat} (hk : k < xs.length) : 0 ≤ xs[k] ∧ xs[k] ≤ 999999999 := h _ (List.getElem_mem hk)
theorem Rng.tail {d : Int} {xs : List Int} (h : Rng (d :: xs)) : Rng xs := fun x hx => h x (List.mem_cons_of_mem _ hx)
theorem Rng.take {xs : List Int} (h : Rng xs) (k : Nat) : Rng (xs.take k) := fun x hx => h x (List.mem_of_mem_take hx)
theorem Rng.drop {xs : List Int} (h : Rng xs) (k : Nat) : Rng (xs.drop k) := fun x hx => h x (List.mem_of_mem_drop hx)

theorem digs_rng (n : Nat) : Rng (digs n) := by
  induction n using Nat.strongRecOn with
  | _ n ih =>
    by_cases h : n = 0
    · subst h; rw [digs_zero]; exact Rng.nil
    · rw [digs_pos (by omega)]; exact Rng.cons (by omega) (ih _ (by omega))

theorem digs_nil_iff {n : Nat} : digs n = [] ↔ n = 0 := by
  constructor
  · intro h; have := val_digs n; rw [h] at this; exact this.symm
  · rintro rfl; exact digs_zero

theorem digs_last (n : Nat) : (digs n).getLastD 1 ≠ 0 := by
  induction n using Nat.strongRecOn with
  | _ n ih =>
    by_cases h : n = 0
    · subst h; rw [digs_zero]; simp
    · rw [digs_pos (by omega)]
      by_cases h2 : n / 1000000000 = 0
      · rw [h2, digs_zero]; simp; omega
      · have := ih (n / 1000000000) (by omega)
        have hne : digs (n / 1000000000) ≠ [] := fun hh => h2 (digs_nil_iff.1 hh)
        cases hd : digs (n / 1000000000) with
        | nil => exact absurd hd hne
        | cons d r => rw [hd] at this; simpa [List.getLastD] using this

theorem val_rng_zero {xs : List Int} (h : Rng xs) (hv : val xs = 0) : ∀ x ∈ xs, x = 0 := by
  induction xs with
  | nil => simp
  | cons d r ih =>
    simp only [val] at hv
    have hd := h d (List.mem_cons_self ..)
    intro x hx
    cases hx with
    | head => omega
    | tail _ hx => exact ih h.tail (by omega) x hx

/-- digits without a zero at the end are the number's own -/
theorem digs_val {xs : List Int} (h : Rng xs) (hl : xs.getLastD 1 ≠ 0) : digs (val xs) = xs := by
  induction xs with
  | nil => rw [val, digs_zero]
  | cons d r ih =>
    have hd := h d (List.mem_cons_self ..)
    have hp : 0 < val (d :: r) := by
      rcases Nat.eq_zero_or_pos (val (d :: r)) with h0 | h0
      · have hz := val_rng_zero h h0
        exact absurd (hz _ (by
          have : (d :: r).getLastD 1 = (d :: r).getLast (by simp) := by simp [List.getLastD_eq_getLast?, List.getLast?_eq_some_getLast]
          rw [this]; exact List.getLast_mem _)) hl
      · exact h0
    rw [digs_pos hp]
    have e1 : val (d :: r) % 1000000000 = d.toNat := by simp only [val]; omega
    have e2 : val (d :: r) / 1000000000 = val r := by simp only [val]; omega
    rw [e1, e2]
    cases r with
    | nil => rw [val, digs_zero]; congr 1; omega
    | cons d' r' => rw [ih h.tail (by simpa [List.getLastD] using hl)]; congr 1; omega

def pw (k : Nat) : Nat := 1000000000 ^ k
theorem pw_zero : pw 0 = 1 := rfl
theorem pw_succ (k : Nat) : pw (k + 1) = 1000000000 * pw k := by unfold pw; rw [Nat.pow_succ, Nat.mul_comm]
theorem pw_pos (k : Nat) : 0 < pw k := Nat.pow_pos (by decide)
theorem pw_add (a b : Nat) : pw (a + b) = pw a * pw b := by unfold pw; exact Nat.pow_add ..
theorem pw_mono {a b : Nat} (h : a ≤ b) : pw a ≤ pw b := Nat.pow_le_pow_right (by decide) h

theorem val_append (xs ys : List Int) : val (xs ++ ys) = val xs + pw xs.length * val ys := by
  induction xs with
  | nil => simp [val, pw_zero]
  | cons d r ih => simp only [List.cons_append, val, ih, List.length_cons, pw_succ]; rw [Nat.mul_add, Nat.mul_assoc]; omega

theorem val_lt {xs : List Int} (h : Rng xs) : val xs < pw xs.length := by
  induction xs with
  | nil => simp [val, pw_zero]
  | cons d r ih =>
    have hd := h d (List.mem_cons_self ..)
    have := ih h.tail
    simp only [val, List.length_cons, pw_succ]; omega

theorem digs_len_le {n k : Nat} (h : n < pw k) : (digs n).length ≤ k := by
  induction k generalizing n with
  | zero => rw [pw_zero] at h; obtain rfl : n = 0 := by omega
            rw [digs_zero]; simp
  | succ k ih =>
    by_cases h0 : n = 0
    · subst h0; rw [digs_zero]; simp
    · rw [digs_pos (by omega)]
      rw [pw_succ] at h
      have := ih (n := n / 1000000000) (by omega)
      simp; omega

theorem digs_lt_pw {n k : Nat} (h : (digs n).length ≤ k) : n < pw k := by
  have := val_lt (digs_rng n)
  rw [val_digs] at this
  exact Nat.lt_of_lt_of_le this (pw_mono h)

theorem digs_len_iff {n k : Nat} : (digs n).length ≤ k ↔ n < pw k := ⟨digs_lt_pw, digs_len_le⟩
theorem digs_inj {m n : Nat} (h : digs m = digs n) : m = n := by rw [← val_digs m, h, val_digs]
end
section

/-- as many digits as the number has -/
theorem digs_of_len {xs : List Int} (h : Rng xs) (hl : xs = [] ∨ pw (xs.length - 1) ≤ val xs) : digs (val xs) = xs := by
  apply digs_val h
  rcases hl with rfl | hl
  · simp
  · intro h0
    have hne : xs ≠ [] := by rintro rfl; simp at h0
    have e1 : xs.getLastD 1 = xs.getLast hne := by simp [List.getLastD_eq_getLast?, List.getLast?_eq_some_getLast hne]
    rw [e1] at h0
    have e2 := List.dropLast_concat_getLast hne
    have h1 : val xs = val xs.dropLast := by
      conv => lhs; rw [← e2, val_append, h0]
      simp [val]
    have h2 : Rng xs.dropLast := by rw [List.dropLast_eq_take]; exact h.take _
    have h3 := val_lt h2
    rw [List.length_dropLast] at h3
    omega

theorem pw_le_digs {n : Nat} (h : 0 < n) : pw ((digs n).length - 1) ≤ n := by
  rcases Nat.lt_or_ge n (pw ((digs n).length - 1)) with h1 | h1
  · have := digs_len_le h1
    have h2 : digs n ≠ [] := fun h' => by have := digs_nil_iff.1 h'; omega
    have h3 : 0 < (digs n).length := List.length_pos_iff.2 h2
    omega
  · exact h1

theorem val_take_succ {xs : List Int} {k : Nat} (h : k < xs.length) : val (xs.take (k + 1)) = val (xs.take k) + pw k * xs[k].toNat := by
  rw [List.take_succ_eq_append_getElem h, val_append]
  simp [val, Nat.min_eq_left (Nat.le_of_lt h)]

theorem digit_split (p : Nat) {n : Int} (hn : 0 ≤ n) : p * (n % 1000000000).toNat + 1000000000 * p * (n / 1000000000).toNat = p * n.toNat := by
  have e : n.toNat = (n % 1000000000).toNat + 1000000000 * (n / 1000000000).toNat := by omega
  rw [e, Nat.mul_add, Nat.mul_comm 1000000000 p, Nat.mul_assoc]

theorem add_step {ds : List Int} {i : Nat} {c n e : Int} {S : Nat} (hl : ds.length = i) (hc : 0 ≤ c) (he : 0 ≤ e) (hn : n = c + e) (h : val ds + pw i * c.toNat = S) :
    val (ds ++ [n % 1000000000]) + pw (i + 1) * (n / 1000000000).toNat = S + pw i * e.toNat := by
  rw [val_append, hl, pw_succ]
  have h1 := digit_split (pw i) (n := n) (by omega)
  have h2 : pw i * n.toNat = pw i * c.toNat + pw i * e.toNat := by rw [← Nat.mul_add]; congr 1; omega
  simp only [val, Nat.mul_zero, Nat.add_zero]
  omega

theorem rng_snoc {ds : List Int} (h : Rng ds) {d : Int} (h0 : 0 ≤ d) (h1 : d ≤ 999999999) : Rng (ds ++ [d]) := h.app (Rng.cons ⟨h0, h1⟩ Rng.nil)

/-- a difference, digit by digit: b what was borrowed -/
theorem sub_step {ds : List Int} {i : Nat} {b n x y : Int} {X Y : Nat} (hl : ds.length = i) (hb : 0 ≤ b) (hx : 0 ≤ x) (hy : 0 ≤ y)
    (h : val ds + Y = X + pw i * b.toNat) {b' : Int} (hb' : 0 ≤ b') (hn : n = x - b - y + 1000000000 * b') (hn0 : 0 ≤ n) :
    val (ds ++ [n]) + (Y + pw i * y.toNat) = (X + pw i * x.toNat) + pw (i + 1) * b'.toNat := by
  rw [val_append, hl, pw_succ]
  simp only [val, Nat.mul_zero, Nat.add_zero]
  have e : n.toNat + b.toNat + y.toNat = x.toNat + 1000000000 * b'.toNat := by omega
  have h2 : pw i * n.toNat + pw i * b.toNat + pw i * y.toNat = pw i * x.toNat + 1000000000 * pw i * b'.toNat := by
    rw [← Nat.mul_add, ← Nat.mul_add, e, Nat.mul_add, Nat.mul_comm 1000000000 (pw i), Nat.mul_assoc]
  omega
end
section
open Go.RowKit
theorem Tryz.infoInt : (Tryz.prog.info? 3).map (fun i => (i.zero, i.size, i.bytes)) = some (some (.int .i64 0), 1, 8) := by kernel_rfl

theorem run_make_ints (n : Nat) (hn : n ≤ 16777216) (w : World) : (Instr.makeSlice 23 (.int .i64 (n : Int)) (.int .i64 (n : Int))).run Tryz.prog w =
    .ok (.slice (some ⟨w.heap.size, 0, none⟩) n n) (w.alloc (.cells (madeCells #[.int .i64 0] n) 3)) := by
  obtain ⟨i0, hi, hz0, hz1, hz2⟩ := info_parts Tryz.infoInt
  have := run_make (P := Tryz.prog) w 23 3 i0 (.int .i64 0) Tryz.underlying23 hi hz0 .i64 .i64 n n (by omega) (Int.le_refl _) (by rw [hz2]; omega) (by omega)
  simpa [hz1, Value.cells] using this

/-- the row after k rounds of copying -/
def copied (xs : List Int) (k : Nat) : List Value := (xs.take k).map (Value.int .i64) ++ List.replicate (xs.length - k) (.int .i64 0)
theorem copied_zero (xs : List Int) : copied xs 0 = (madeCells #[.int .i64 0] xs.length).toList := by simp [copied, toList_madeCells_one]
theorem copied_length (xs : List Int) (k : Nat) (hk : k ≤ xs.length) : (copied xs k).length = xs.length := by simp [copied]; omega
theorem copied_all (xs : List Int) : copied xs xs.length = xs.map (Value.int .i64) := by simp [copied]
theorem copied_get (xs : List Int) (k : Nat) (hk : k < xs.length) : (copied xs k)[k]? = some (.int .i64 0) := by
  unfold copied
  rw [List.getElem?_append_right (by simp; omega)]
  simp [Nat.min_eq_left (Nat.le_of_lt hk), List.getElem?_replicate]; omega
theorem copied_succ (xs : List Int) (k : Nat) (hk : k < xs.length) : (copied xs k).set k (.int .i64 xs[k]) = copied xs (k + 1) := by
  unfold copied
  rw [List.set_append_right _ _ (by simp; omega)]
  simp only [List.length_map, List.length_take, Nat.min_eq_left (Nat.le_of_lt hk), Nat.sub_self]
  obtain ⟨m, hm⟩ : ∃ m, xs.length - k = m + 1 := ⟨xs.length - k - 1, by omega⟩
  rw [hm, List.replicate_succ, List.set_cons_zero, List.take_succ_eq_append_getElem hk, List.map_append, List.append_assoc]
  have : xs.length - (k + 1) = m := by omega
  rw [this]; rfl

/-- k, k + 1, .. -/
def marks (k : Int) (n : Nat) : List Value := (List.range n).map fun (i : Nat) => Value.int .i64 (k + i)
def marked (k : Int) (xs : List Value) (j : Nat) : List Value := marks k j ++ xs.drop j
theorem marked_zero (k : Int) (xs : List Value) : marked k xs 0 = xs := by simp [marked, marks]
theorem marked_all (k : Int) (xs : List Value) : marked k xs xs.length = marks k xs.length := by simp [marked]
theorem marked_set (k : Int) (xs : List Value) (j : Nat) (hj : j < xs.length) : (marked k xs j).set j (.int .i64 (k + j)) = marked k xs (j + 1) := by
  unfold marked
  rw [List.set_append_right _ _ (by simp [marks])]
  simp only [marks, List.length_map, List.length_range, Nat.sub_self]
  rw [List.drop_eq_getElem_cons hj, List.set_cons_zero, List.range_succ, List.map_append, List.append_assoc]; rfl
theorem marked_get (k : Int) (xs : List Value) (j : Nat) (hj : j < xs.length) : (marked k xs j)[j]? = some xs[j] := by
  unfold marked
  rw [List.getElem?_append_right (by simp [marks])]
  simp [marks, hj]

end
section
open Go.RowKit

theorem cell_one (w : World) (v : Value) (t : TypeId) : ∀ j u, [v][j]? = some u → (w.alloc (.cells #[v] t)).cell? ((⟨w.heap.size, 0, none⟩ : Addr).add j) = some u := cell_one_new w v t

/-- append(s, x) of one int to a slice of the call's own -/
theorem append_int {ops : Array Oper} {rest : List Oper} {o : Oper} {a : Act} {Q : Exit → Act → World → Prop} {w : World} {base : Nat} {v : Value} {xs : List Int} {n : Int}
    (hown : Own 3 w base v xs) (hn : In64 n) (hl : xs.length + 1 ≤ 16777216) (hb : base ≤ w.heap.size) (hgd : o.guard = none) (s x : Operand)
    (ho : o.op = .call { callee := .builtin .append, args := #[s, x], argTypes := #[23, 23] })
    (hs : a.eval s = v) (hx : a.eval x = .slice (some ⟨w.heap.size, 0, none⟩) 1 1)
    (h : ∀ v' w', Own 3 w' base v' (xs ++ [n]) → Below base w w' → w.grownBy w' v.ownBlock → wpList Tryz.prog ops Q rest (a.put o.dst v') w') :
    wpList Tryz.prog ops Q (o :: rest) a (w.alloc (.cells #[.int .i64 n] 3)) := by
  obtain ⟨i0, hi, hz0, hz1, hz2⟩ := info_parts Tryz.infoInt
  refine wpList_append_own _ hgd s x 23 ho base 3 i0 (.int .i64 0) 1 8 Tryz.underlying23 hi hz0 hz1 hz2 rfl (by decide) v xs.length (xs.map (Value.int .i64)) hs (hown.2.alloc _)
    ⟨w.heap.size, 0, none⟩ 1 1 [.int .i64 n] hx rfl (cell_one w _ _) (by simp [Value.oneCell']) (by unfold maxLen; omega) (by omega) (by simp; omega) ?_
  intro v' w' hown' hg _
  have hg' : w.grownBy w' v.ownBlock := by
    have h0 := World.grownBy_alloc w (.cells #[.int .i64 n] 3) v.ownBlock
    exact ⟨hg.os.trans h0.os, hg.tape.trans h0.tape, hg.output.trans h0.output, Nat.le_trans h0.size hg.size, fun q hq hne => (hg.block q (Nat.lt_of_lt_of_le hq h0.size) hne).trans (h0.block q hq hne)⟩
  refine h v' w' ⟨?_, ?_⟩ ((Below.refl base w).grown hg' hb fun k hk => (hown.2.lt k hk).1) hg'
  · intro x hx; rcases List.mem_append.1 hx with hx | hx
    · exact hown.1 x hx
    · simp at hx; rw [hx]; exact hn
  · simpa using hown'

/-- append(s, t...) of ints to a slice of the call's own, t not nil -/
theorem append_src {ops : Array Oper} {rest : List Oper} {o : Oper} {a : Act} {Q : Exit → Act → World → Prop} {w : World} {base : Nat} {v : Value} {xs ys : List Int} {ad : Addr} {c : Nat}
    (hown : Own 3 w base v xs) (hy : IntsAt w (some ad) c ys) (hl : xs.length + ys.length ≤ 16777216) (hb : base ≤ w.heap.size) (hgd : o.guard = none) (s x : Operand)
    (ho : o.op = .call { callee := .builtin .append, args := #[s, x], argTypes := #[23, 23] })
    (hs : a.eval s = v) (hx : a.eval x = .slice (some ad) ys.length c)
    (h : ∀ v' w', Own 3 w' base v' (xs ++ ys) → Below base w w' → w.grownBy w' v.ownBlock → wpList Tryz.prog ops Q rest (a.put o.dst v') w') :
    wpList Tryz.prog ops Q (o :: rest) a w := by
  obtain ⟨i0, hi, hz0, hz1, hz2⟩ := info_parts Tryz.infoInt
  have hc : ∀ j u, (ys.map (Value.int .i64))[j]? = some u → w.cell? (ad.add j) = some u := by
    intro j u hu
    rcases hy.at_ with rfl | ⟨b, off, e, _, hc⟩
    · simp at hu
    · cases e
      have hj : j < ys.length := by
        rcases Nat.lt_or_ge j ys.length with h | h
        · exact h
        · simp [h] at hu
      rw [← hu, Go.WideShapes.add_plain, hc j hj]
      simp [hj]
  refine wpList_append_own _ hgd s x 23 ho base 3 i0 (.int .i64 0) 1 8 Tryz.underlying23 hi hz0 hz1 hz2 rfl (by decide) v xs.length (xs.map (Value.int .i64)) hs hown.2
    ad ys.length c (ys.map (Value.int .i64)) hx (by simp) hc (by intro u hu; obtain ⟨n, _, rfl⟩ := List.mem_map.1 hu; rfl) (by unfold maxLen; omega) (by omega) hb ?_
  intro v' w' hown' hg _
  refine h v' w' ⟨fun x hx => ?_, by simpa using hown'⟩ ((Below.refl base w).grown hg hb fun k hk => (hown.2.lt k hk).1) hg
  rcases List.mem_append.1 hx with hx | hx
  · exact hown.1 x hx
  · exact hy.fit x hx

/-- append(s, t...) where t is nil -/
theorem append_none {ops : Array Oper} {rest : List Oper} {o : Oper} {a : Act} {Q : Exit → Act → World → Prop} {w : World} {base : Nat} {v : Value} {xs : List Int}
    (hown : Own 3 w base v xs) (hgd : o.guard = none) (s x : Operand)
    (ho : o.op = .call { callee := .builtin .append, args := #[s, x], argTypes := #[23, 23] })
    (hs : a.eval s = v) (hx : a.eval x = .slice none 0 0) (h : wpList Tryz.prog ops Q rest (a.put o.dst v) w) : wpList Tryz.prog ops Q (o :: rest) a w := by
  obtain ⟨i0, hi, hz0, hz1, hz2⟩ := info_parts Tryz.infoInt
  have hr := run_append_owned_none (P := Tryz.prog) (w := w) base 23 o.type 3 i0 1 Tryz.underlying23 hi v xs.length _ hown.2
  refine wpList_plain hgd fun K hK => ?_
  unfold Oper.wp execOp
  simp only [ho, resolve, invoke, builtin, Sem.run_bind, Sem.run_pure, Result.andThen_ok, List.map_toArray, List.map_cons, List.map_nil, hs, hx, hr]
  exact hK _ _ h

theorem own_empty (w : World) : Own 3 (w.alloc (.cells #[] 3)) w.heap.size (.slice (some ⟨w.heap.size, 0, none⟩) 0 0) [] :=
  ⟨by simp, World.ownsRow_lit (base := w.heap.size) (size := 1) (e := 3) w #[] 0 (Nat.le_refl _) (by unfold maxLen; omega) rfl⟩

theorem own_emptyB (w : World) {B : Nat} (hB : B = w.heap.size) : Own 3 (w.alloc (.cells #[] 3)) B (.slice (some ⟨B, 0, none⟩) 0 0) [] := by subst hB; exact own_empty w

theorem own_nil (w : World) (base : Nat) : Own 3 w base (.slice none 0 0) [] := ⟨by simp, World.ownsRow_nil w base _ _⟩
end
section
open Go.RowKit

/-- only blocks from lo up to hi may differ -/
structure Span (lo hi : Nat) (w w' : World) : Prop where
  os : w'.os = w.os
  tape : w'.tape = w.tape
  output : w'.output = w.output
  size : w.heap.size ≤ w'.heap.size
  block : ∀ k, k < w.heap.size → (k < lo ∨ hi ≤ k) → w'.heap[k]? = w.heap[k]?

theorem Span.refl (lo hi : Nat) (w : World) : Span lo hi w w := ⟨rfl, rfl, rfl, Nat.le_refl _, fun _ _ _ => rfl⟩
theorem Span.trans {lo hi : Nat} {a b c : World} (h : Span lo hi a b) (k : Span lo hi b c) : Span lo hi a c :=
  ⟨k.os.trans h.os, k.tape.trans h.tape, k.output.trans h.output, Nat.le_trans h.size k.size, fun i hi ho => (k.block i (Nat.lt_of_lt_of_le hi h.size) ho).trans (h.block i hi ho)⟩
theorem Span.of_below {lo hi : Nat} {w w' : World} (h : Below w.heap.size w w') : Span lo hi w w' := ⟨h.os, h.tape, h.output, h.size, fun k hk _ => h.block k hk⟩

/-- a chain goes on behind a write into blocks from lo on -/
theorem bspan {lo hi : Nat} {c w w' : World} (h : Below c.heap.size c w) (b : Span lo hi w w') (hB : c.heap.size ≤ lo) : Below c.heap.size c w' :=
  h.trans ⟨b.os, b.tape, b.output, b.size, fun k hk => by
    rcases Nat.lt_or_ge k w.heap.size with hl | hl
    · exact b.block k hl (.inl (by omega))
    · have := h.size; omega⟩

theorem bspan_mono {lo hi lo' hi' : Nat} {w w' : World} (h : Span lo hi w w') (h1 : lo' ≤ lo) (h2 : hi ≤ hi') : Span lo' hi' w w' :=
  ⟨h.os, h.tape, h.output, h.size, fun k hk ho => h.block k hk (by omega)⟩

def InR (hi : Nat) (v : Value) : Prop := ∀ k, v.ownBlock = some k → k < hi
def Apart (u v : Value) : Prop := u.ownBlock = none ∨ u.ownBlock ≠ v.ownBlock
theorem Apart.symm {u v : Value} (h : Apart u v) : Apart v u := by
  unfold Apart at *
  cases hv : v.ownBlock with
  | none => exact .inl rfl
  | some k => rcases h with h | h
              · right; rw [h]; simp
              · right; rw [hv] at h; exact fun h' => h h'.symm

/-- a row of ints of the call's own in the blocks from lo up to hi -/
def OwnI (w : World) (lo hi : Nat) (v : Value) (xs : List Int) : Prop := Own 3 w lo v xs ∧ InR hi v
def MarkI (w : World) (lo hi : Nat) (v : Value) (n : Nat) (k : Int) : Prop := w.ownsRow lo 3 1 v n (marks k n) ∧ InR hi v

section
variable {w w' : World} {lo hi lo2 hi2 : Nat} {u v : Value} {xs ys : List Int} {n : Nat} {k : Int}

theorem Own.toI (h : Own 3 w lo v xs) : OwnI w lo w.heap.size v xs := ⟨h, fun k hk => (h.2.lt k hk).2⟩
theorem OwnI.below (h : OwnI w lo hi v xs) (b : Below w.heap.size w w') : OwnI w' lo hi v xs := ⟨h.1.below b, h.2⟩
theorem MarkI.below (h : MarkI w lo hi v n k) (b : Below w.heap.size w w') : MarkI w' lo hi v n k := ⟨ownsRow_below h.1 b, h.2⟩
theorem OwnI.mono (h : OwnI w lo hi v xs) (h1 : lo2 ≤ lo) (h2 : hi ≤ hi2) : OwnI w lo2 hi2 v xs := ⟨h.1.rebase h1, fun k hk => Nat.lt_of_lt_of_le (h.2 k hk) h2⟩

theorem ownsRow_span {vs : List Value} (h : w.ownsRow lo 3 1 v n vs) (hh : InR hi v) (s : Span lo2 hi2 w w') (ho : hi ≤ lo2 ∨ hi2 ≤ lo) : w'.ownsRow lo 3 1 v n vs := by
  refine ⟨h.1, ?_⟩
  rcases h.2 with hn | ⟨g, cap, cur, rfl, hbg, hg, rest⟩
  · exact .inl hn
  · have hl := hh g (by simp [Value.ownBlock])
    exact .inr ⟨g, cap, cur, rfl, hbg, by rw [s.block g (Array.getElem?_eq_some_iff.1 hg).1 (by omega)]; exact hg, rest⟩
theorem OwnI.span (h : OwnI w lo hi v xs) (s : Span lo2 hi2 w w') (ho : hi ≤ lo2 ∨ hi2 ≤ lo) : OwnI w' lo hi v xs := ⟨⟨h.1.1, ownsRow_span h.1.2 h.2 s ho⟩, h.2⟩
theorem MarkI.span (h : MarkI w lo hi v n k) (s : Span lo2 hi2 w w') (ho : hi ≤ lo2 ∨ hi2 ≤ lo) : MarkI w' lo hi v n k := ⟨ownsRow_span h.1 h.2 s ho, h.2⟩
theorem OwnI.kept (h : OwnI w lo hi v xs) (g : w.grownBy w' u.ownBlock) (ha : Apart v u) : OwnI w' lo hi v xs := ⟨⟨h.1.1, h.1.2.kept g ha⟩, h.2⟩
theorem MarkI.kept (h : MarkI w lo hi v n k) (g : w.grownBy w' u.ownBlock) (ha : Apart v u) : MarkI w' lo hi v n k := ⟨h.1.kept g ha, h.2⟩

theorem span_of_grown {vs : List Value} (h : w.ownsRow lo 3 1 v n vs) (hh : InR hi v) (g : w.grownBy w' v.ownBlock) : Span lo hi w w' :=
  ⟨g.os, g.tape, g.output, g.size, fun k hk ho => g.block k hk fun e => by have h1 := (h.lt k e.symm).1; have h2 := hh k e.symm; omega⟩

theorem apart_of_range (h : OwnI w lo hi v xs) {w2 : World} (h2 : OwnI w2 lo2 hi2 u ys) (ho : hi ≤ lo2 ∨ hi2 ≤ lo) : Apart v u := by
  unfold Apart
  cases hv : v.ownBlock with
  | none => exact .inl rfl
  | some k =>
    right
    intro e
    have a1 := (h.1.2.lt k hv).1
    have a2 := h.2 k hv
    have b1 := (h2.1.2.lt k e.symm).1
    have b2 := h2.2 k e.symm
    omega
end

end
section
open Go.RowKit

set_option maxHeartbeats 400000 in
theorem l01In_any (n lo hi : Int) (w : World) : Calls Tryz.prog 114 #[.int .i64 n, .int .i64 lo, .int .i64 hi] w fun e w' => e = .returned (.bool (inB n lo hi)) ∧ w = w' := by
  by_cases h1 : lo ≤ n
  · have hh : decide (lo ≤ n) = true := by simp [h1]
    go_enter Tryz.func114, Tryz.ntmps114
    go_wp2
    go_ret
    exact ⟨ret_bool (by simp [inB, h1]), rfl⟩
  · have hh : decide (lo ≤ n) = false := by simp; omega
    go_enter Tryz.func114, Tryz.ntmps114
    go_wp2
    go_ret
    exact ⟨ret_bool (by simp [inB]; omega), rfl⟩

set_option maxHeartbeats 400000 in
theorem within_any (n lo hi : Int) (w : World) : Calls Tryz.prog 71 #[.int .i64 n, .int .i64 lo, .int .i64 hi] w fun e w' => e = .returned (.bool (inB n lo hi)) ∧ w = w' := by
  by_cases h1 : lo ≤ n
  · have hh : decide (lo ≤ n) = true := by simp [h1]
    go_enter Tryz.func71, Tryz.ntmps71
    go_wp2
    go_ret
    exact ⟨ret_bool (by simp [inB, h1]), rfl⟩
  · have hh : decide (lo ≤ n) = false := by simp; omega
    go_enter Tryz.func71, Tryz.ntmps71
    go_wp2
    go_ret
    exact ⟨ret_bool (by simp [inB]; omega), rfl⟩

end
section
open Go.RowKit

theorem OwnI.ints {w : World} {lo hi : Nat} {a : Option Addr} {cap : Nat} {xs : List Int} (h : OwnI w lo hi (.slice a xs.length cap) xs) : IntsAt w a cap xs := h.1.ints

theorem Own.out {w : World} {lo : Nat} {v : Value} {xs : List Int} (h : Own 3 w lo v xs) : ∃ a c, v = .slice a xs.length c ∧ OwnI w lo w.heap.size (.slice a xs.length c) xs := by
  obtain ⟨a, c, rfl, _⟩ := h.form
  exact ⟨a, c, rfl, h.toI⟩

end
end Go.Proofs.YtehhpkeabckdaaaGreatDoor
