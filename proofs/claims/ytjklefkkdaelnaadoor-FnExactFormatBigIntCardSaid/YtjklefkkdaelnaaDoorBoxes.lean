/- Boxes just made, behind a call. -/
import Derived.Test.YtjklefkkdaelnaaDoorTyB
namespace Go.Proofs.YtjklefkkdaelnaaDoor
set_option linter.unusedVariables false
set_option linter.unusedSimpArgs false
open Go.RowKit
theorem bx1_0 {w w' : World} {cs : Array Value} {t : TypeId} (b : Below (w.alloc (.cells cs t)).heap.size (w.alloc (.cells cs t)) w') : Box w' (w.heap.size) cs := by
  have h : Box (w.alloc (.cells cs t)) (w.heap.size) cs := by
    have := box_new0 (Below.refl (w.alloc (.cells cs t)).heap.size (w.alloc (.cells cs t)))
    simpa only [World.size_alloc] using this
  exact box_step h b
theorem bx2_0 {w w' : World} {cs : Array Value} {t : TypeId} {o1 : Obj} (b : Below ((w.alloc (.cells cs t)).alloc o1).heap.size ((w.alloc (.cells cs t)).alloc o1) w') : Box w' (w.heap.size) cs := by
  have h : Box (w.alloc (.cells cs t)) (w.heap.size) cs := by
    have := box_new0 (Below.refl (w.alloc (.cells cs t)).heap.size (w.alloc (.cells cs t)))
    simpa only [World.size_alloc] using this
  have h := box_step h (ba1 _ o1)
  exact box_step h b
theorem bx2_1 {w w' : World} {cs : Array Value} {t : TypeId} {o0 : Obj} (b : Below ((w.alloc o0).alloc (.cells cs t)).heap.size ((w.alloc o0).alloc (.cells cs t)) w') : Box w' (w.heap.size + 1) cs := by
  have h : Box ((w.alloc o0).alloc (.cells cs t)) (w.heap.size + 1) cs := by
    have := box_new0 (Below.refl ((w.alloc o0).alloc (.cells cs t)).heap.size ((w.alloc o0).alloc (.cells cs t)))
    simpa only [World.size_alloc] using this
  exact box_step h b
theorem bx3_0 {w w' : World} {cs : Array Value} {t : TypeId} {o1 o2 : Obj} (b : Below (((w.alloc (.cells cs t)).alloc o1).alloc o2).heap.size (((w.alloc (.cells cs t)).alloc o1).alloc o2) w') : Box w' (w.heap.size) cs := by
  have h : Box (w.alloc (.cells cs t)) (w.heap.size) cs := by
    have := box_new0 (Below.refl (w.alloc (.cells cs t)).heap.size (w.alloc (.cells cs t)))
    simpa only [World.size_alloc] using this
  have h := box_step h (ba1 _ o1)
  have h := box_step h (ba1 _ o2)
  exact box_step h b
theorem bx3_1 {w w' : World} {cs : Array Value} {t : TypeId} {o0 o2 : Obj} (b : Below (((w.alloc o0).alloc (.cells cs t)).alloc o2).heap.size (((w.alloc o0).alloc (.cells cs t)).alloc o2) w') : Box w' (w.heap.size + 1) cs := by
  have h : Box ((w.alloc o0).alloc (.cells cs t)) (w.heap.size + 1) cs := by
    have := box_new0 (Below.refl ((w.alloc o0).alloc (.cells cs t)).heap.size ((w.alloc o0).alloc (.cells cs t)))
    simpa only [World.size_alloc] using this
  have h := box_step h (ba1 _ o2)
  exact box_step h b
theorem bx3_2 {w w' : World} {cs : Array Value} {t : TypeId} {o0 o1 : Obj} (b : Below (((w.alloc o0).alloc o1).alloc (.cells cs t)).heap.size (((w.alloc o0).alloc o1).alloc (.cells cs t)) w') : Box w' (w.heap.size + 2) cs := by
  have h : Box (((w.alloc o0).alloc o1).alloc (.cells cs t)) (w.heap.size + 2) cs := by
    have := box_new0 (Below.refl (((w.alloc o0).alloc o1).alloc (.cells cs t)).heap.size (((w.alloc o0).alloc o1).alloc (.cells cs t)))
    simpa only [World.size_alloc] using this
  exact box_step h b
theorem bx4_0 {w w' : World} {cs : Array Value} {t : TypeId} {o1 o2 o3 : Obj} (b : Below ((((w.alloc (.cells cs t)).alloc o1).alloc o2).alloc o3).heap.size ((((w.alloc (.cells cs t)).alloc o1).alloc o2).alloc o3) w') : Box w' (w.heap.size) cs := by
  have h : Box (w.alloc (.cells cs t)) (w.heap.size) cs := by
    have := box_new0 (Below.refl (w.alloc (.cells cs t)).heap.size (w.alloc (.cells cs t)))
    simpa only [World.size_alloc] using this
  have h := box_step h (ba1 _ o1)
  have h := box_step h (ba1 _ o2)
  have h := box_step h (ba1 _ o3)
  exact box_step h b
theorem bx4_1 {w w' : World} {cs : Array Value} {t : TypeId} {o0 o2 o3 : Obj} (b : Below ((((w.alloc o0).alloc (.cells cs t)).alloc o2).alloc o3).heap.size ((((w.alloc o0).alloc (.cells cs t)).alloc o2).alloc o3) w') : Box w' (w.heap.size + 1) cs := by
  have h : Box ((w.alloc o0).alloc (.cells cs t)) (w.heap.size + 1) cs := by
    have := box_new0 (Below.refl ((w.alloc o0).alloc (.cells cs t)).heap.size ((w.alloc o0).alloc (.cells cs t)))
    simpa only [World.size_alloc] using this
  have h := box_step h (ba1 _ o2)
  have h := box_step h (ba1 _ o3)
  exact box_step h b
theorem bx4_2 {w w' : World} {cs : Array Value} {t : TypeId} {o0 o1 o3 : Obj} (b : Below ((((w.alloc o0).alloc o1).alloc (.cells cs t)).alloc o3).heap.size ((((w.alloc o0).alloc o1).alloc (.cells cs t)).alloc o3) w') : Box w' (w.heap.size + 2) cs := by
  have h : Box (((w.alloc o0).alloc o1).alloc (.cells cs t)) (w.heap.size + 2) cs := by
    have := box_new0 (Below.refl (((w.alloc o0).alloc o1).alloc (.cells cs t)).heap.size (((w.alloc o0).alloc o1).alloc (.cells cs t)))
    simpa only [World.size_alloc] using this
  have h := box_step h (ba1 _ o3)
  exact box_step h b
theorem bx4_3 {w w' : World} {cs : Array Value} {t : TypeId} {o0 o1 o2 : Obj} (b : Below ((((w.alloc o0).alloc o1).alloc o2).alloc (.cells cs t)).heap.size ((((w.alloc o0).alloc o1).alloc o2).alloc (.cells cs t)) w') : Box w' (w.heap.size + 3) cs := by
  have h : Box ((((w.alloc o0).alloc o1).alloc o2).alloc (.cells cs t)) (w.heap.size + 3) cs := by
    have := box_new0 (Below.refl ((((w.alloc o0).alloc o1).alloc o2).alloc (.cells cs t)).heap.size ((((w.alloc o0).alloc o1).alloc o2).alloc (.cells cs t)))
    simpa only [World.size_alloc] using this
  exact box_step h b
theorem bx5_0 {w w' : World} {cs : Array Value} {t : TypeId} {o1 o2 o3 o4 : Obj} (b : Below (((((w.alloc (.cells cs t)).alloc o1).alloc o2).alloc o3).alloc o4).heap.size (((((w.alloc (.cells cs t)).alloc o1).alloc o2).alloc o3).alloc o4) w') : Box w' (w.heap.size) cs := by
  have h : Box (w.alloc (.cells cs t)) (w.heap.size) cs := by
    have := box_new0 (Below.refl (w.alloc (.cells cs t)).heap.size (w.alloc (.cells cs t)))
    simpa only [World.size_alloc] using this
  have h := box_step h (ba1 _ o1)
  have h := box_step h (ba1 _ o2)
  have h := box_step h (ba1 _ o3)
  have h := box_step h (ba1 _ o4)
  exact box_step h b
theorem bx5_1 {w w' : World} {cs : Array Value} {t : TypeId} {o0 o2 o3 o4 : Obj} (b : Below (((((w.alloc o0).alloc (.cells cs t)).alloc o2).alloc o3).alloc o4).heap.size (((((w.alloc o0).alloc (.cells cs t)).alloc o2).alloc o3).alloc o4) w') : Box w' (w.heap.size + 1) cs := by
  have h : Box ((w.alloc o0).alloc (.cells cs t)) (w.heap.size + 1) cs := by
    have := box_new0 (Below.refl ((w.alloc o0).alloc (.cells cs t)).heap.size ((w.alloc o0).alloc (.cells cs t)))
    simpa only [World.size_alloc] using this
  have h := box_step h (ba1 _ o2)
  have h := box_step h (ba1 _ o3)
  have h := box_step h (ba1 _ o4)
  exact box_step h b
theorem bx5_2 {w w' : World} {cs : Array Value} {t : TypeId} {o0 o1 o3 o4 : Obj} (b : Below (((((w.alloc o0).alloc o1).alloc (.cells cs t)).alloc o3).alloc o4).heap.size (((((w.alloc o0).alloc o1).alloc (.cells cs t)).alloc o3).alloc o4) w') : Box w' (w.heap.size + 2) cs := by
  have h : Box (((w.alloc o0).alloc o1).alloc (.cells cs t)) (w.heap.size + 2) cs := by
    have := box_new0 (Below.refl (((w.alloc o0).alloc o1).alloc (.cells cs t)).heap.size (((w.alloc o0).alloc o1).alloc (.cells cs t)))
    simpa only [World.size_alloc] using this
  have h := box_step h (ba1 _ o3)
  have h := box_step h (ba1 _ o4)
  exact box_step h b
theorem bx5_3 {w w' : World} {cs : Array Value} {t : TypeId} {o0 o1 o2 o4 : Obj} (b : Below (((((w.alloc o0).alloc o1).alloc o2).alloc (.cells cs t)).alloc o4).heap.size (((((w.alloc o0).alloc o1).alloc o2).alloc (.cells cs t)).alloc o4) w') : Box w' (w.heap.size + 3) cs := by
  have h : Box ((((w.alloc o0).alloc o1).alloc o2).alloc (.cells cs t)) (w.heap.size + 3) cs := by
    have := box_new0 (Below.refl ((((w.alloc o0).alloc o1).alloc o2).alloc (.cells cs t)).heap.size ((((w.alloc o0).alloc o1).alloc o2).alloc (.cells cs t)))
    simpa only [World.size_alloc] using this
  have h := box_step h (ba1 _ o4)
  exact box_step h b
theorem bx5_4 {w w' : World} {cs : Array Value} {t : TypeId} {o0 o1 o2 o3 : Obj} (b : Below (((((w.alloc o0).alloc o1).alloc o2).alloc o3).alloc (.cells cs t)).heap.size (((((w.alloc o0).alloc o1).alloc o2).alloc o3).alloc (.cells cs t)) w') : Box w' (w.heap.size + 4) cs := by
  have h : Box (((((w.alloc o0).alloc o1).alloc o2).alloc o3).alloc (.cells cs t)) (w.heap.size + 4) cs := by
    have := box_new0 (Below.refl (((((w.alloc o0).alloc o1).alloc o2).alloc o3).alloc (.cells cs t)).heap.size (((((w.alloc o0).alloc o1).alloc o2).alloc o3).alloc (.cells cs t)))
    simpa only [World.size_alloc] using this
  exact box_step h b
theorem bx6_0 {w w' : World} {cs : Array Value} {t : TypeId} {o1 o2 o3 o4 o5 : Obj} (b : Below ((((((w.alloc (.cells cs t)).alloc o1).alloc o2).alloc o3).alloc o4).alloc o5).heap.size ((((((w.alloc (.cells cs t)).alloc o1).alloc o2).alloc o3).alloc o4).alloc o5) w') : Box w' (w.heap.size) cs := by
  have h : Box (w.alloc (.cells cs t)) (w.heap.size) cs := by
    have := box_new0 (Below.refl (w.alloc (.cells cs t)).heap.size (w.alloc (.cells cs t)))
    simpa only [World.size_alloc] using this
  have h := box_step h (ba1 _ o1)
  have h := box_step h (ba1 _ o2)
  have h := box_step h (ba1 _ o3)
  have h := box_step h (ba1 _ o4)
  have h := box_step h (ba1 _ o5)
  exact box_step h b
theorem bx6_1 {w w' : World} {cs : Array Value} {t : TypeId} {o0 o2 o3 o4 o5 : Obj} (b : Below ((((((w.alloc o0).alloc (.cells cs t)).alloc o2).alloc o3).alloc o4).alloc o5).heap.size ((((((w.alloc o0).alloc (.cells cs t)).alloc o2).alloc o3).alloc o4).alloc o5) w') : Box w' (w.heap.size + 1) cs := by
  have h : Box ((w.alloc o0).alloc (.cells cs t)) (w.heap.size + 1) cs := by
    have := box_new0 (Below.refl ((w.alloc o0).alloc (.cells cs t)).heap.size ((w.alloc o0).alloc (.cells cs t)))
    simpa only [World.size_alloc] using this
  have h := box_step h (ba1 _ o2)
  have h := box_step h (ba1 _ o3)
  have h := box_step h (ba1 _ o4)
  have h := box_step h (ba1 _ o5)
  exact box_step h b
theorem bx6_2 {w w' : World} {cs : Array Value} {t : TypeId} {o0 o1 o3 o4 o5 : Obj} (b : Below ((((((w.alloc o0).alloc o1).alloc (.cells cs t)).alloc o3).alloc o4).alloc o5).heap.size ((((((w.alloc o0).alloc o1).alloc (.cells cs t)).alloc o3).alloc o4).alloc o5) w') : Box w' (w.heap.size + 2) cs := by
  have h : Box (((w.alloc o0).alloc o1).alloc (.cells cs t)) (w.heap.size + 2) cs := by
    have := box_new0 (Below.refl (((w.alloc o0).alloc o1).alloc (.cells cs t)).heap.size (((w.alloc o0).alloc o1).alloc (.cells cs t)))
    simpa only [World.size_alloc] using this
  have h := box_step h (ba1 _ o3)
  have h := box_step h (ba1 _ o4)
  have h := box_step h (ba1 _ o5)
  exact box_step h b
theorem bx6_3 {w w' : World} {cs : Array Value} {t : TypeId} {o0 o1 o2 o4 o5 : Obj} (b : Below ((((((w.alloc o0).alloc o1).alloc o2).alloc (.cells cs t)).alloc o4).alloc o5).heap.size ((((((w.alloc o0).alloc o1).alloc o2).alloc (.cells cs t)).alloc o4).alloc o5) w') : Box w' (w.heap.size + 3) cs := by
  have h : Box ((((w.alloc o0).alloc o1).alloc o2).alloc (.cells cs t)) (w.heap.size + 3) cs := by
    have := box_new0 (Below.refl ((((w.alloc o0).alloc o1).alloc o2).alloc (.cells cs t)).heap.size ((((w.alloc o0).alloc o1).alloc o2).alloc (.cells cs t)))
    simpa only [World.size_alloc] using this
  have h := box_step h (ba1 _ o4)
  have h := box_step h (ba1 _ o5)
  exact box_step h b
theorem bx6_4 {w w' : World} {cs : Array Value} {t : TypeId} {o0 o1 o2 o3 o5 : Obj} (b : Below ((((((w.alloc o0).alloc o1).alloc o2).alloc o3).alloc (.cells cs t)).alloc o5).heap.size ((((((w.alloc o0).alloc o1).alloc o2).alloc o3).alloc (.cells cs t)).alloc o5) w') : Box w' (w.heap.size + 4) cs := by
  have h : Box (((((w.alloc o0).alloc o1).alloc o2).alloc o3).alloc (.cells cs t)) (w.heap.size + 4) cs := by
    have := box_new0 (Below.refl (((((w.alloc o0).alloc o1).alloc o2).alloc o3).alloc (.cells cs t)).heap.size (((((w.alloc o0).alloc o1).alloc o2).alloc o3).alloc (.cells cs t)))
    simpa only [World.size_alloc] using this
  have h := box_step h (ba1 _ o5)
  exact box_step h b
theorem bx6_5 {w w' : World} {cs : Array Value} {t : TypeId} {o0 o1 o2 o3 o4 : Obj} (b : Below ((((((w.alloc o0).alloc o1).alloc o2).alloc o3).alloc o4).alloc (.cells cs t)).heap.size ((((((w.alloc o0).alloc o1).alloc o2).alloc o3).alloc o4).alloc (.cells cs t)) w') : Box w' (w.heap.size + 5) cs := by
  have h : Box ((((((w.alloc o0).alloc o1).alloc o2).alloc o3).alloc o4).alloc (.cells cs t)) (w.heap.size + 5) cs := by
    have := box_new0 (Below.refl ((((((w.alloc o0).alloc o1).alloc o2).alloc o3).alloc o4).alloc (.cells cs t)).heap.size ((((((w.alloc o0).alloc o1).alloc o2).alloc o3).alloc o4).alloc (.cells cs t)))
    simpa only [World.size_alloc] using this
  exact box_step h b

theorem ba5 (w : World) (o p q r s : Obj) : Below w.heap.size w (((((w.alloc o).alloc p).alloc q).alloc r).alloc s) := (ba4 w o p q r).alloc (by simp; omega) s
theorem ba6 (w : World) (o p q r s t : Obj) : Below w.heap.size w ((((((w.alloc o).alloc p).alloc q).alloc r).alloc s).alloc t) := (ba5 w o p q r s).alloc (by simp; omega) t
theorem box_other {w : World} {B R k : Nat} {u : Value} {cs : Array Value} (h : Box w B cs) (hne : B ≠ R) : Box (w.setCell ⟨R, k, none⟩ u) B cs := by
  obtain ⟨t, h⟩ := h
  exact ⟨t, by rw [Below.heap_setCell _ _ _ _ (by simpa using hne)]; exact h⟩
theorem box_put {w : World} {B k : Nat} {u : Value} {cs : Array Value} (h : Box w B cs) : Box (w.setCell ⟨B, k, none⟩ u) B (cs.setIfInBounds k u) := by
  obtain ⟨t, h⟩ := h
  exact ⟨t, heap_setCell_same w B k cs t u h⟩
theorem box_as {w : World} {B : Nat} {cs cs' : Array Value} (h : Box w B cs) (e : cs = cs') : Box w B cs' := e ▸ h
theorem below_put {c w : World} {n R k : Nat} {u : Value} (h : Below n c w) (hR : n ≤ R) : Below n c (w.setCell ⟨R, k, none⟩ u) := h.setCell hR u
theorem own_put {w : World} {lo hi R k : Nat} {u v : Value} {xs : List Int} (h : OwnI w lo hi v xs) (hR : R < lo) : OwnI (w.setCell ⟨R, k, none⟩ u) lo hi v xs := h.low hR u

theorem OwnI.put {w : World} {lo hi R k : Nat} {x v : Value} {xs : List Int} (h : OwnI w lo hi v xs) (hR : R < lo) : OwnI (w.setCell ⟨R, k, none⟩ x) lo hi v xs := own_put h hR
/-- two rows of a call's own, the second in later blocks -/
def Two (w : World) (lo hi : Nat) (u v : Value) (xs ys : List Int) : Prop := ∃ m, lo ≤ m ∧ m ≤ hi ∧ OwnI w lo m u xs ∧ OwnI w m hi v ys
/-- four -/
def Four (w : World) (lo hi : Nat) (u v u2 v2 : Value) (xs ys xs2 ys2 : List Int) : Prop := ∃ m, lo ≤ m ∧ m ≤ hi ∧ Two w lo m u v xs ys ∧ Two w m hi u2 v2 xs2 ys2
theorem Two.of {w : World} {lo hi l1 h1 l2 h2 : Nat} {u v : Value} {xs ys : List Int} (a : OwnI w l1 h1 u xs) (b : OwnI w l2 h2 v ys) (e1 : lo ≤ l1) (e2 : h1 ≤ l2) (e3 : h2 ≤ hi) (e4 : lo ≤ l2) (e5 : l2 ≤ hi) : Two w lo hi u v xs ys :=
  ⟨l2, e4, e5, a.mono e1 e2, b.mono (Nat.le_refl _) e3⟩
theorem Two.below {w w' : World} {lo hi : Nat} {u v : Value} {xs ys : List Int} (h : Two w lo hi u v xs ys) (b : Below w.heap.size w w') : Two w' lo hi u v xs ys := let ⟨m, h1, h2, h3, h4⟩ := h; ⟨m, h1, h2, h3.below b, h4.below b⟩
theorem Two.mono {w : World} {lo hi lo2 hi2 : Nat} {u v : Value} {xs ys : List Int} (h : Two w lo hi u v xs ys) (h1 : lo2 ≤ lo) (h2 : hi ≤ hi2) : Two w lo2 hi2 u v xs ys := let ⟨m, e1, e2, e3, e4⟩ := h; ⟨m, by omega, by omega, e3.mono h1 (Nat.le_refl _), e4.mono (Nat.le_refl _) h2⟩
theorem Two.put {w : World} {lo hi R k : Nat} {u v x : Value} {xs ys : List Int} (h : Two w lo hi u v xs ys) (hR : R < lo) : Two (w.setCell ⟨R, k, none⟩ x) lo hi u v xs ys := let ⟨m, e1, e2, e3, e4⟩ := h; ⟨m, e1, e2, own_put e3 hR, own_put e4 (by omega)⟩
/-- a fraction's result stored into a box at block R -/
theorem rat_endR {w w2 : World} {lo hi R : Nat} {u v : Value} {xs ys : List Int} (hR : w.heap.size ≤ R) (hlo : R < lo) (h : Two w2 lo hi u v xs ys) (hh : hi ≤ w2.heap.size) (b : Below w.heap.size w w2) (u0 u1 u2 : Value) :
    Two (((w2.setCell ⟨R, 0, none⟩ u0).setCell ⟨R, 1, none⟩ u1).setCell ⟨R, 2, none⟩ u2) w.heap.size (((w2.setCell ⟨R, 0, none⟩ u0).setCell ⟨R, 1, none⟩ u1).setCell ⟨R, 2, none⟩ u2).heap.size u v xs ys ∧
      Below w.heap.size w (((w2.setCell ⟨R, 0, none⟩ u0).setCell ⟨R, 1, none⟩ u1).setCell ⟨R, 2, none⟩ u2) :=
  ⟨(((h.put hlo).put hlo).put hlo).mono (by omega) (by simpa using hh), below_put (below_put (below_put b hR) hR) hR⟩
theorem two_nil (w : World) (lo hi : Nat) (h : lo ≤ hi) : Two w lo hi (.slice none 0 0) (.slice none 0 0) [] [] := ⟨hi, h, Nat.le_refl _, ⟨own_nil _ _, fun k hk => by cases hk⟩, ⟨own_nil _ _, fun k hk => by cases hk⟩⟩
theorem ratz_endR {w w2 : World} {R : Nat} (hR : w.heap.size ≤ R) (b : Below w.heap.size w w2) (u0 u1 u2 : Value) :
    Two (((w2.setCell ⟨R, 0, none⟩ u0).setCell ⟨R, 1, none⟩ u1).setCell ⟨R, 2, none⟩ u2) w.heap.size (((w2.setCell ⟨R, 0, none⟩ u0).setCell ⟨R, 1, none⟩ u1).setCell ⟨R, 2, none⟩ u2).heap.size (.slice none 0 0) (.slice none 0 0) [] [] ∧
      Below w.heap.size w (((w2.setCell ⟨R, 0, none⟩ u0).setCell ⟨R, 1, none⟩ u1).setCell ⟨R, 2, none⟩ u2) :=
  ⟨two_nil _ _ _ (by simpa using b.size), below_put (below_put (below_put b hR) hR) hR⟩
section
variable {w w' : World} {lo hi lo2 hi2 R k l1 h1 l2 h2 : Nat} {u v u2 v2 x : Value} {xs ys xs2 ys2 : List Int}
theorem Four.below (h : Four w lo hi u v u2 v2 xs ys xs2 ys2) (b : Below w.heap.size w w') : Four w' lo hi u v u2 v2 xs ys xs2 ys2 := let ⟨m, e1, e2, e3, e4⟩ := h; ⟨m, e1, e2, e3.below b, e4.below b⟩
theorem Four.mono (h : Four w lo hi u v u2 v2 xs ys xs2 ys2) (e1 : lo2 ≤ lo) (e2 : hi ≤ hi2) : Four w lo2 hi2 u v u2 v2 xs ys xs2 ys2 := let ⟨m, f1, f2, e3, e4⟩ := h; ⟨m, by omega, by omega, e3.mono e1 (Nat.le_refl _), e4.mono (Nat.le_refl _) e2⟩
theorem Four.put (h : Four w lo hi u v u2 v2 xs ys xs2 ys2) (hR : R < lo) : Four (w.setCell ⟨R, k, none⟩ x) lo hi u v u2 v2 xs ys xs2 ys2 := let ⟨m, e1, e2, e3, e4⟩ := h; ⟨m, e1, e2, e3.put hR, e4.put (by omega)⟩
theorem Two.span (h : Two w lo hi u v xs ys) (s : Span lo2 hi2 w w') (ho : hi ≤ lo2 ∨ hi2 ≤ lo) : Two w' lo hi u v xs ys :=
  let ⟨m, h1, h2, h3, h4⟩ := h; ⟨m, h1, h2, h3.span s (by omega), h4.span s (by omega)⟩
theorem Four.span (h : Four w lo hi u v u2 v2 xs ys xs2 ys2) (s : Span lo2 hi2 w w') (ho : hi ≤ lo2 ∨ hi2 ≤ lo) : Four w' lo hi u v u2 v2 xs ys xs2 ys2 :=
  let ⟨m, h1, h2, h3, h4⟩ := h; ⟨m, h1, h2, h3.span s (by omega), h4.span s (by omega)⟩
theorem Four.of (a : Two w l1 h1 u v xs ys) (b : Two w l2 h2 u2 v2 xs2 ys2) (e1 : lo ≤ l1) (e2 : h1 ≤ l2) (e3 : h2 ≤ hi) (e4 : lo ≤ l2) (e5 : l2 ≤ hi) : Four w lo hi u v u2 v2 xs ys xs2 ys2 :=
  ⟨l2, e4, e5, a.mono e1 e2, b.mono (Nat.le_refl _) e3⟩
theorem point_endR {w : World} {u0 y1 y2 y3 y4 y5 : Value} {w2 : World} (hR : w.heap.size ≤ R) (hlo : R < lo) (h : Four w2 lo hi u v u2 v2 xs ys xs2 ys2) (hh : hi ≤ w2.heap.size) (b : Below w.heap.size w w2) :
    Four ((((((w2.setCell ⟨R, 0, none⟩ u0).setCell ⟨R, 1, none⟩ y1).setCell ⟨R, 2, none⟩ y2).setCell ⟨R, 3, none⟩ y3).setCell ⟨R, 4, none⟩ y4).setCell ⟨R, 5, none⟩ y5) w.heap.size ((((((w2.setCell ⟨R, 0, none⟩ u0).setCell ⟨R, 1, none⟩ y1).setCell ⟨R, 2, none⟩ y2).setCell ⟨R, 3, none⟩ y3).setCell ⟨R, 4, none⟩ y4).setCell ⟨R, 5, none⟩ y5).heap.size u v u2 v2 xs ys xs2 ys2 ∧
      Below w.heap.size w ((((((w2.setCell ⟨R, 0, none⟩ u0).setCell ⟨R, 1, none⟩ y1).setCell ⟨R, 2, none⟩ y2).setCell ⟨R, 3, none⟩ y3).setCell ⟨R, 4, none⟩ y4).setCell ⟨R, 5, none⟩ y5) :=
  ⟨((((((h.put hlo).put hlo).put hlo).put hlo).put hlo).put hlo).mono (by omega) (by simpa using hh), below_put (below_put (below_put (below_put (below_put (below_put b hR) hR) hR) hR) hR) hR⟩
theorem four_nil (w : World) (lo hi : Nat) (h : lo ≤ hi) : Four w lo hi (.slice none 0 0) (.slice none 0 0) (.slice none 0 0) (.slice none 0 0) [] [] [] [] := ⟨hi, h, Nat.le_refl _, two_nil _ _ _ h, two_nil _ _ _ (Nat.le_refl _)⟩
end
/-- a contract's result as a slice -/
theorem own_out {f : FuncId} {args : Array Value} {w : World} {xs : List Int} (h : Calls Tryd.prog f args w fun e w' => ∃ v, e = .returned v ∧ Own 3 w' w.heap.size v xs ∧ Below w.heap.size w w') :
    Calls Tryd.prog f args w fun e w' => ∃ p c, e = .returned (.slice p xs.length c) ∧ OwnI w' w.heap.size w'.heap.size (.slice p xs.length c) xs ∧ Below w.heap.size w w' :=
  h.mono fun _ _ ⟨_, h1, h2, h3⟩ => let ⟨p, c, h4, h5⟩ := h2.out; ⟨p, c, by rw [h1, h4], h5, h3⟩
end Go.Proofs.YtjklefkkdaelnaaDoor
