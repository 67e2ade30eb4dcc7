/- Fractions: the reference's negative and copy. -/
import Derived.Test.YtehhpkeabckdaaaGreatDoorRatS
namespace Go.Proofs.YtehhpkeabckdaaaGreatDoor
set_option linter.unusedVariables false
set_option linter.unusedSimpArgs false
open Go.RowKit
section
variable (n : Bool) (a : Option Addr) (ca : Nat) (xs : List Int) (b : Option Addr) (cb : Nat) (ds : List Int) (w : World) (ha : IntsAt w a ca xs) (hn : xs.length ≤ 1048576) (hb : IntsAt w b cb ds) (hm : ds.length ≤ 1048576)
theorem neg_fin {w w2 : World} {l1 l2 : Nat} {u v : Value} {xs ds : List Int} (R : Nat) (hR : w.heap.size ≤ R) (h1 : FrI w2 l1 u xs) (h2 : FrI w2 l2 v ds) (e1 : R < l1) (e2 : R < l2) (b : Below w.heap.size w w2) (u0 u1 u2 : Value) :
    TwoF (((w2.setCell ⟨R, 0, none⟩ u0).setCell ⟨R, 1, none⟩ u1).setCell ⟨R, 2, none⟩ u2) w.heap.size u v xs ds ∧ Below w.heap.size w (((w2.setCell ⟨R, 0, none⟩ u0).setCell ⟨R, 1, none⟩ u1).setCell ⟨R, 2, none⟩ u2) :=
  ratF_end hR (lo := R + 1) (by omega) (TwoF.of h1 h2 (by omega) (by omega)) b _ _ _
theorem OwnI.grown {w w' : World} {lo hi : Nat} {u v : Value} {xs : List Int} (h : OwnI w lo hi v xs) (g : w.grownBy w' u.ownBlock) (ha : Apart v u) : OwnI w' lo hi v xs := h.kept g ha
theorem own_not_empty {w w' : World} {lo lo2 g : Nat} {v : Value} {xs : List Int} (h : Own 3 w lo v xs) (e : Own 3 w lo2 (.slice (some ⟨g, 0, none⟩) 0 0) []) (gr : w.grownBy w' (Value.slice (some ⟨g, 0, none⟩) 0 0).ownBlock) : FrI w' lo v xs := by
  obtain ⟨p, c, rfl, h1, h2⟩ := h.toI.fr
  refine ⟨p, c, rfl, h1.grown gr ?_, h2⟩
  rcases h.2.2 with ⟨_, h0⟩ | ⟨g', cap, cur, hv, hb, hg, hnc, hcm, hcs, ht⟩
  · exact .inl (List.eq_nil_of_length_eq_zero h0)
  · rcases e.2.2 with ⟨e1, _⟩ | ⟨g2, cap2, cur2, hv2, hb2, hg2, hnc2, hcm2, hcs2, ht2⟩
    · cases e1
    · simp only [Value.slice.injEq, Option.some.injEq, Addr.mk.injEq, and_true, true_and] at hv hv2
      obtain ⟨rfl, rfl⟩ := hv
      obtain ⟨rfl, -, rfl⟩ := hv2
      by_cases hk : xs = []
      · exact .inl hk
      · right
        intro hh
        simp [Value.ownBlock] at hh
        subst hh
        rw [hg] at hg2
        cases hg2
        have := List.length_pos_iff.2 hk
        omega
theorem ba1' (w : World) (o : Obj) {n : Nat} (h : n ≤ w.heap.size) : Below n w (w.alloc o) := (ba1 w o).mono h
end
end Go.Proofs.YtehhpkeabckdaaaGreatDoor
