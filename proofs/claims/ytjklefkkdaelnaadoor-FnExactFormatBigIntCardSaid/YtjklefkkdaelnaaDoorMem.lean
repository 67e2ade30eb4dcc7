/- What a law needs of memory: rows of the call's own in ranges of blocks; marking them. -/
import Derived.Test.YtjklefkkdaelnaaDoorHelp
namespace Go.Proofs.YtjklefkkdaelnaaDoor
set_option linter.unusedVariables false
set_option linter.unusedSimpArgs false
open Go.RowKit

/-- only blocks from lo up to hi may differ -/
structure Span (lo hi : Nat) (w w' : World) : Prop where
  os : w'.os = w.os
  tape : w'.tape = w.tape
  output : w'.output = w.output
  size : w.heap.size ≤ w'.heap.size
  block : ∀ k, k < w.heap.size → (k < lo ∨ hi ≤ k) → w'.heap[k]? = w.heap[k]?

theorem Span.refl (lo hi : Nat) (w : World) : Span lo hi w w := ⟨rfl, rfl, rfl, Nat.le_refl _, fun _ _ _ => rfl⟩
theorem Span.trans {lo hi : Nat} {a b c : World} (h : Span lo hi a b) (k : Span lo hi b c) : Span lo hi a c :=
  ⟨k.os.trans h.os, k.tape.trans h.tape, k.output.trans h.output, Nat.le_trans h.size k.size, fun i hi ho => (k.block i (Nat.lt_of_lt_of_le hi h.size) ho).trans (h.block i hi ho)⟩
theorem Span.of_below {lo hi : Nat} {w w' : World} (h : Below w.heap.size w w') : Span lo hi w w' := ⟨h.os, h.tape, h.output, h.size, fun k hk _ => h.block k hk⟩

/-- a chain goes on behind a write into blocks from lo on -/
theorem bspan {lo hi : Nat} {c w w' : World} (h : Below c.heap.size c w) (b : Span lo hi w w') (hB : c.heap.size ≤ lo) : Below c.heap.size c w' :=
  h.trans ⟨b.os, b.tape, b.output, b.size, fun k hk => by
    rcases Nat.lt_or_ge k w.heap.size with hl | hl
    · exact b.block k hl (.inl (by omega))
    · have := h.size; omega⟩

theorem bspan_mono {lo hi lo' hi' : Nat} {w w' : World} (h : Span lo hi w w') (h1 : lo' ≤ lo) (h2 : hi ≤ hi') : Span lo' hi' w w' :=
  ⟨h.os, h.tape, h.output, h.size, fun k hk ho => h.block k hk (by omega)⟩

def InR (hi : Nat) (v : Value) : Prop := ∀ k, v.ownBlock = some k → k < hi
def Apart (u v : Value) : Prop := u.ownBlock = none ∨ u.ownBlock ≠ v.ownBlock
theorem Apart.symm {u v : Value} (h : Apart u v) : Apart v u := by
  unfold Apart at *
  cases hv : v.ownBlock with
  | none => exact .inl rfl
  | some k => rcases h with h | h
              · right; rw [h]; simp
              · right; rw [hv] at h; exact fun h' => h h'.symm

/-- a row of ints of the call's own in the blocks from lo up to hi -/
def OwnI (w : World) (lo hi : Nat) (v : Value) (xs : List Int) : Prop := Own 3 w lo v xs ∧ InR hi v
def MarkI (w : World) (lo hi : Nat) (v : Value) (n : Nat) (k : Int) : Prop := w.ownsRow lo 3 1 v n (marks k n) ∧ InR hi v

section
variable {w w' : World} {lo hi lo2 hi2 : Nat} {u v : Value} {xs ys : List Int} {n : Nat} {k : Int}

theorem Own.toI (h : Own 3 w lo v xs) : OwnI w lo w.heap.size v xs := ⟨h, fun k hk => (h.2.lt k hk).2⟩
theorem OwnI.below (h : OwnI w lo hi v xs) (b : Below w.heap.size w w') : OwnI w' lo hi v xs := ⟨h.1.below b, h.2⟩
theorem MarkI.below (h : MarkI w lo hi v n k) (b : Below w.heap.size w w') : MarkI w' lo hi v n k := ⟨ownsRow_below h.1 b, h.2⟩
theorem OwnI.mono (h : OwnI w lo hi v xs) (h1 : lo2 ≤ lo) (h2 : hi ≤ hi2) : OwnI w lo2 hi2 v xs := ⟨h.1.rebase h1, fun k hk => Nat.lt_of_lt_of_le (h.2 k hk) h2⟩

theorem ownsRow_span {vs : List Value} (h : w.ownsRow lo 3 1 v n vs) (hh : InR hi v) (s : Span lo2 hi2 w w') (ho : hi ≤ lo2 ∨ hi2 ≤ lo) : w'.ownsRow lo 3 1 v n vs := by
  refine ⟨h.1, ?_⟩
  rcases h.2 with hn | ⟨g, cap, cur, rfl, hbg, hg, rest⟩
  · exact .inl hn
  · have hl := hh g (by simp [Value.ownBlock])
    exact .inr ⟨g, cap, cur, rfl, hbg, by rw [s.block g (Array.getElem?_eq_some_iff.1 hg).1 (by omega)]; exact hg, rest⟩
theorem OwnI.span (h : OwnI w lo hi v xs) (s : Span lo2 hi2 w w') (ho : hi ≤ lo2 ∨ hi2 ≤ lo) : OwnI w' lo hi v xs := ⟨⟨h.1.1, ownsRow_span h.1.2 h.2 s ho⟩, h.2⟩
theorem MarkI.span (h : MarkI w lo hi v n k) (s : Span lo2 hi2 w w') (ho : hi ≤ lo2 ∨ hi2 ≤ lo) : MarkI w' lo hi v n k := ⟨ownsRow_span h.1 h.2 s ho, h.2⟩
theorem OwnI.kept (h : OwnI w lo hi v xs) (g : w.grownBy w' u.ownBlock) (ha : Apart v u) : OwnI w' lo hi v xs := ⟨⟨h.1.1, h.1.2.kept g ha⟩, h.2⟩
theorem MarkI.kept (h : MarkI w lo hi v n k) (g : w.grownBy w' u.ownBlock) (ha : Apart v u) : MarkI w' lo hi v n k := ⟨h.1.kept g ha, h.2⟩

theorem span_of_grown {vs : List Value} (h : w.ownsRow lo 3 1 v n vs) (hh : InR hi v) (g : w.grownBy w' v.ownBlock) : Span lo hi w w' :=
  ⟨g.os, g.tape, g.output, g.size, fun k hk ho => g.block k hk fun e => by have h1 := (h.lt k e.symm).1; have h2 := hh k e.symm; omega⟩

theorem apart_of_range (h : OwnI w lo hi v xs) {w2 : World} (h2 : OwnI w2 lo2 hi2 u ys) (ho : hi ≤ lo2 ∨ hi2 ≤ lo) : Apart v u := by
  unfold Apart
  cases hv : v.ownBlock with
  | none => exact .inl rfl
  | some k =>
    right
    intro e
    have a1 := (h.1.2.lt k hv).1
    have a2 := h.2 k hv
    have b1 := (h2.1.2.lt k e.symm).1
    have b2 := h2.2 k e.symm
    omega
end

theorem markIntS_own {lo hi : Nat} (a : Option Addr) (cap : Nat) (xs : List Int) (k : Int) (w : World) (ha : OwnI w lo hi (.slice a xs.length cap) xs) (hn : xs.length ≤ 1048576) (hk0 : 0 ≤ k) (hk1 : k ≤ 1000000000) :
    Calls Tryd.prog 24 #[.slice a xs.length cap, .int .i64 k] w fun e w' => e = .returned (.int .i64 (k + xs.length)) ∧ MarkI w' lo hi (.slice a xs.length cap) xs.length k ∧ Span lo hi w w' ∧ w.grownBy w' (Value.slice a xs.length cap).ownBlock :=
  (markIntS_any lo a xs.length cap _ k w ha.1.2 hn hk0 hk1).mono fun _ _ ⟨h1, h2, h3⟩ => ⟨h1, ⟨h2, ha.2⟩, span_of_grown ha.1.2 ha.2 h3, h3⟩

theorem heldIntS_own {lo hi : Nat} (a : Option Addr) (cap n : Nat) (k : Int) (w : World) (ha : MarkI w lo hi (.slice a n cap) n k) (hn : n ≤ 1048576) (hk0 : 0 ≤ k) (hk1 : k ≤ 1000000000) :
    Calls Tryd.prog 25 #[.slice a n cap, .int .i64 k] w fun e w' => e = .returned (.int .i64 (k + n)) ∧ w = w' :=
  heldIntS_any lo a n cap k w ha.1 hn hk0 hk1
theorem heldIntS_own2 {lo hi : Nat} (a : Option Addr) (cap n : Nat) (k : Int) (w : World) (ha : MarkI w lo hi (.slice a n cap) n k) (hn : n ≤ 1048576) (hk0 : 0 ≤ k) (hk1 : k ≤ 1000000000) :
    Calls Tryd.prog 25 #[.slice a n cap, .int .i64 k] w fun e w' => e = .returned (.int .i64 (k + n)) ∧ Below w.heap.size w w' :=
  (heldIntS_own a cap n k w ha hn hk0 hk1).mono fun _ _ ⟨h, h2⟩ => ⟨h, h2 ▸ Below.refl _ _⟩
end Go.Proofs.YtjklefkkdaelnaaDoor
