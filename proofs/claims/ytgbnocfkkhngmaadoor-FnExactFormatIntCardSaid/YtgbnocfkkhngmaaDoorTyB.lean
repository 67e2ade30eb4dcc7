/- BigInt: reading, copying, holding against, marking. -/
import Derived.Test.YtgbnocfkkhngmaaDoorLaws1
import Derived.Test.YtgbnocfkkhngmaaDoorNatOps
namespace Go.Proofs.YtgbnocfkkhngmaaDoor
set_option linter.unusedVariables false
set_option linter.unusedSimpArgs false
open Go.RowKit

/-- behind a call: what was there reads as it did -/
theorem bcells {W w1 : World} (hb : Below W.heap.size W w1) : (∀ b o, b < W.heap.size → w1.cell? ⟨b, o, none⟩ = W.cell? ⟨b, o, none⟩) ∧ (∀ b o, b < W.heap.size → w1.frozen? ⟨b, o, none⟩ = W.frozen? ⟨b, o, none⟩) :=
  ⟨fun b o h => hb.cell (p := ⟨b, o, none⟩) h, fun b o h => hb.frozen (p := ⟨b, o, none⟩) h⟩
theorem bcellsB {B : Nat} {W w1 : World} (hb : Below B W w1) : (∀ b o, b < B → w1.cell? ⟨b, o, none⟩ = W.cell? ⟨b, o, none⟩) ∧ (∀ b o, b < B → w1.frozen? ⟨b, o, none⟩ = W.frozen? ⟨b, o, none⟩) :=
  ⟨fun b o h => hb.cell (p := ⟨b, o, none⟩) h, fun b o h => hb.frozen (p := ⟨b, o, none⟩) h⟩
theorem ba1 (w : World) (o : Obj) : Below w.heap.size w (w.alloc o) := (Below.refl _ _).alloc (Nat.le_refl _) o
theorem ba2 (w : World) (o p : Obj) : Below w.heap.size w ((w.alloc o).alloc p) := (ba1 w o).alloc (by simp) p
theorem ba3 (w : World) (o p q : Obj) : Below w.heap.size w (((w.alloc o).alloc p).alloc q) := (ba2 w o p).alloc (by simp; omega) q
theorem ba4 (w : World) (o p q r : Obj) : Below w.heap.size w ((((w.alloc o).alloc p).alloc q).alloc r) := (ba3 w o p q).alloc (by simp; omega) r

/-- a box that lies before a call reads so behind it -/
theorem box_cell {W W' : World} {cs : Array Value} {t : TypeId} (b : Below (W.alloc (.cells cs t)).heap.size (W.alloc (.cells cs t)) W') (j : Nat) {v : Value} (h : cs[j]? = some v) : W'.cell? ⟨W.heap.size, j, none⟩ = some v := by
  rw [b.cell (p := ⟨W.heap.size, j, none⟩) (by simp), World.cell?_alloc_at _ _ _ _ rfl]; simpa using h
theorem cell_step {W W' : World} {B j : Nat} {v : Value} (h : W.cell? ⟨B, j, none⟩ = some v) (b : Below W.heap.size W W') : W'.cell? ⟨B, j, none⟩ = some v := by
  rw [b.cell (p := ⟨B, j, none⟩) (World.block_lt_of_cell? W _ h)]; exact h
theorem cell_low {W : World} {B j : Nat} {v u : Value} {p : Addr} (h : W.cell? ⟨B, j, none⟩ = some v) (hp : B < p.block) : (W.setCell p u).cell? ⟨B, j, none⟩ = some v := by
  rw [World.cell?_of_block (w := W) (Below.heap_setCell _ _ _ _ (by simp; omega))]; exact h
theorem cell_stepD {W W' : World} {B j : Nat} {v : Value} (h : W.cell? ⟨B, j, none⟩ = some v) (b : Below W.drew.heap.size W.drew W') : W'.cell? ⟨B, j, none⟩ = some v :=
  cell_step (W := W.drew) (by rw [← h]; rfl) b
theorem bstepD {c w w' : World} (h : Below c.heap.size c w) (b : Below w.drew.heap.size w.drew w') : Below c.heap.size c w' := bstep h.drew b
theorem cell_span {W W' : World} {B j lo hi : Nat} {v : Value} (h : W.cell? ⟨B, j, none⟩ = some v) (s : Span lo hi W W') (ho : B < lo ∨ hi ≤ B) : W'.cell? ⟨B, j, none⟩ = some v := by
  rw [World.cell?_of_block (w := W) (s.block B (World.block_lt_of_cell? W _ h) ho)]; exact h
/-- a box of the call's own: block B holds these cells -/
def Box (w : World) (B : Nat) (cs : Array Value) : Prop := ∃ t, w.heap[B]? = some (.cells cs t (0, 0))
theorem Box.lt {w : World} {B : Nat} {cs : Array Value} (h : Box w B cs) : B < w.heap.size := by obtain ⟨t, h⟩ := h; exact (Array.getElem?_eq_some_iff.1 h).1
theorem Box.cell {w : World} {B : Nat} {cs : Array Value} (h : Box w B cs) (j : Nat) {v : Value} (hv : cs[j]? = some v) : w.cell? ⟨B, j, none⟩ = some v := by
  obtain ⟨t, h⟩ := h
  rw [cell_of_row w B j cs t (0, 0) h]; exact hv
theorem Box.frozen {w : World} {B : Nat} {cs : Array Value} (h : Box w B cs) (j : Nat) : w.frozen? ⟨B, j, none⟩ = false := by
  obtain ⟨t, h⟩ := h
  exact frozen_of_row w B j cs t h
theorem box_step {w w' : World} {B : Nat} {cs : Array Value} (h : Box w B cs) (b : Below w.heap.size w w') : Box w' B cs := by
  have hl := h.lt
  obtain ⟨t, h⟩ := h
  exact ⟨t, by rw [b.block B hl]; exact h⟩
theorem box_drew {w : World} {B : Nat} {cs : Array Value} (h : Box w B cs) : Box w.drew B cs := h
theorem box_span {w w' : World} {B lo hi : Nat} {cs : Array Value} (h : Box w B cs) (b : Span lo hi w w') (ho : B < lo ∨ hi ≤ B) : Box w' B cs := by
  have hl := h.lt
  obtain ⟨t, h⟩ := h
  exact ⟨t, by rw [b.block B hl ho]; exact h⟩
theorem box_new0 {w w' : World} {cs : Array Value} {t : TypeId} (b : Below (w.alloc (.cells cs t)).heap.size (w.alloc (.cells cs t)) w') : Box w' w.heap.size cs :=
  ⟨t, by rw [b.block w.heap.size (by simp)]; exact heap_alloc_new w _⟩
theorem box_new1 {w w' : World} {cs : Array Value} {t : TypeId} {o : Obj} (b : Below ((w.alloc (.cells cs t)).alloc o).heap.size ((w.alloc (.cells cs t)).alloc o) w') : Box w' w.heap.size cs :=
  box_step (box_new0 (ba1 (w.alloc (.cells cs t)) o)) b
theorem box_new2 {w w' : World} {cs : Array Value} {t : TypeId} {o p : Obj} (b : Below (((w.alloc (.cells cs t)).alloc o).alloc p).heap.size (((w.alloc (.cells cs t)).alloc o).alloc p) w') : Box w' w.heap.size cs :=
  box_step (box_new0 (ba2 (w.alloc (.cells cs t)) o p)) b
theorem OwnI.low {w : World} {lo hi : Nat} {v : Value} {xs : List Int} (h : OwnI w lo hi v xs) {p : Addr} (hp : p.block < lo) (u : Value) : OwnI (w.setCell p u) lo hi v xs := ⟨⟨h.1.1, ownsRow_setCell_below h.1.2 hp u⟩, h.2⟩

def bigOkB (n : Bool) (xs : List Int) : Bool := natOkB xs && (!n || decide (0 < xs.length))
end Go.Proofs.YtgbnocfkkhngmaaDoor
