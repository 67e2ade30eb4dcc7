/- The program's lowest terms (reduced). -/
import Derived.Test.YtjklefkkdaelnaaDoorRatF
import Derived.Test.YtjklefkkdaelnaaDoorGcd
namespace Go.Proofs.YtjklefkkdaelnaaDoor
set_option linter.unusedVariables false
set_option linter.unusedSimpArgs false
open Go.RowKit
theorem natGcd_out (a : Option Addr) (ca : Nat) (xs : List Int) (b : Option Addr) (cb : Nat) (ys : List Int) (g : Nat) (w : World) (ha : IntsAt w a ca xs) (hb : IntsAt w b cb ys) (hn : xs.length ≤ 400000) (hm : ys.length ≤ 400000) (hx : digs (val xs) = xs) (hy : digs (val ys) = ys) (hg : Nat.gcd (val xs) (val ys) = g) :
    Calls Tryd.prog 85 #[.slice a xs.length ca, .slice b ys.length cb] w fun e w' => ∃ p c, e = .returned (.slice p (digs g).length c) ∧ OwnI w' w.heap.size w'.heap.size (.slice p (digs g).length c) (digs g) ∧ Below w.heap.size w w' := by
  subst hg
  exact natGcd_any a ca xs b cb ys w ha hb hn hm hx hy
theorem natDiv_out (a : Option Addr) (ca : Nat) (xs : List Int) (b : Option Addr) (cb : Nat) (g X : Nat) (w : World) (ha : IntsAt w a ca xs) (hb : IntsAt w b cb (digs g)) (hn : xs.length ≤ 400000) (hm : (digs g).length ≤ 400000) (hx : digs (val xs) = xs) (h0 : 0 < g) (hg : val xs / g = X) :
    Calls Tryd.prog 80 #[.slice a xs.length ca, .slice b (digs g).length cb] w fun e w' => ∃ p c v, e = .returned (.tuple #[.slice p (digs X).length c, v]) ∧ OwnI w' w.heap.size w'.heap.size (.slice p (digs X).length c) (digs X) ∧ Below w.heap.size w w' := by
  have h := natDiv_any a ca xs b cb (digs g) w ha hb (by omega) (by omega) hx (by rw [val_digs]) (by rw [val_digs]; exact h0)
  rw [val_digs, hg] at h
  exact h.mono fun _ _ ⟨p, c, p2, c2, h1, h2, h3⟩ => ⟨p, c, _, h1, (OwnI.of_two h2).1, h3⟩
/-- a result in the blocks from lo on -/
def RatFrom (w : World) (lo : Nat) (r : RA) (e : Ending) (w' : World) : Prop := ∃ p c p2 c2, e = .returned (.agg #[.bool r.neg, .slice p r.num.length c, .slice p2 r.den.length c2]) ∧ Two w' lo w'.heap.size (.slice p r.num.length c) (.slice p2 r.den.length c2) r.num r.den ∧ Below w.heap.size w w'
theorem ratR_end {w w2 : World} {lo l2 hi R : Nat} {u v : Value} {xs ys : List Int} (hl : lo ≤ l2) (hR : R < l2) (hw : w.heap.size ≤ R) (h : Two w2 l2 hi u v xs ys) (hh : hi ≤ w2.heap.size) (b : Below w.heap.size w w2) (u0 u1 u2 : Value) :
    Two (((w2.setCell ⟨R, 0, none⟩ u0).setCell ⟨R, 1, none⟩ u1).setCell ⟨R, 2, none⟩ u2) lo (((w2.setCell ⟨R, 0, none⟩ u0).setCell ⟨R, 1, none⟩ u1).setCell ⟨R, 2, none⟩ u2).heap.size u v xs ys ∧ Below w.heap.size w (((w2.setCell ⟨R, 0, none⟩ u0).setCell ⟨R, 1, none⟩ u1).setCell ⟨R, 2, none⟩ u2) :=
  ⟨(((h.put hR).put hR).put hR).mono hl (by simpa using hh), below_put (below_put (below_put b hw) hw) hw⟩
theorem Two.putHigh {w : World} {lo hi R k : Nat} {u v x : Value} {xs ys : List Int} (h : Two w lo hi u v xs ys) (_ : hi ≤ w.heap.size) (hR : hi ≤ R) : Two (w.setCell ⟨R, k, none⟩ x) lo hi u v xs ys :=
  h.span (lo2 := R) (hi2 := R + 1) ⟨rfl, rfl, rfl, by simp, fun q hq ho => Below.heap_setCell _ _ _ _ (by simp; omega)⟩ (.inl hR)
theorem ratA_end {w w2 : World} {lo hi R : Nat} {u v : Value} {xs ys : List Int} (hlo : lo ≤ hi) (hR : hi ≤ R) (hw : w.heap.size ≤ R) (h : Two w2 lo hi u v xs ys) (hh : hi ≤ w2.heap.size) (b : Below w.heap.size w w2) (u0 u1 u2 : Value) :
    Two (((w2.setCell ⟨R, 0, none⟩ u0).setCell ⟨R, 1, none⟩ u1).setCell ⟨R, 2, none⟩ u2) lo (((w2.setCell ⟨R, 0, none⟩ u0).setCell ⟨R, 1, none⟩ u1).setCell ⟨R, 2, none⟩ u2).heap.size u v xs ys ∧ Below w.heap.size w (((w2.setCell ⟨R, 0, none⟩ u0).setCell ⟨R, 1, none⟩ u1).setCell ⟨R, 2, none⟩ u2) :=
  ⟨(((h.putHigh hh hR).putHigh (by simpa using hh) hR).putHigh (by simpa using hh) hR).mono (Nat.le_refl _) (by simpa using hh), below_put (below_put (below_put b hw) hw) hw⟩
theorem ratzR_end {w w2 : World} {lo R : Nat} (hlo : lo ≤ w.heap.size) (hR : w.heap.size ≤ R) (b : Below w.heap.size w w2) (u0 u1 u2 : Value) :
    Two (((w2.setCell ⟨R, 0, none⟩ u0).setCell ⟨R, 1, none⟩ u1).setCell ⟨R, 2, none⟩ u2) lo (((w2.setCell ⟨R, 0, none⟩ u0).setCell ⟨R, 1, none⟩ u1).setCell ⟨R, 2, none⟩ u2).heap.size (.slice none 0 0) (.slice none 0 0) [] [] ∧ Below w.heap.size w (((w2.setCell ⟨R, 0, none⟩ u0).setCell ⟨R, 1, none⟩ u1).setCell ⟨R, 2, none⟩ u2) :=
  ⟨two_nil _ _ _ (by have := b.size; simp; omega), below_put (below_put (below_put b hR) hR) hR⟩
def fitR2 (n : Bool) (X Y : Nat) : RA := if (digs X).length ≤ 24 ∧ (digs Y).length ≤ 24 then ⟨n, digs X, digs Y⟩ else zeroRA
section
variable (n : Bool) (a : Option Addr) (ca : Nat) (xs : List Int) (b : Option Addr) (cb : Nat) (ys : List Int) (lo hi : Nat) (w : World) (ht : Two w lo hi (.slice a xs.length ca) (.slice b ys.length cb) xs ys) (hh : hi ≤ w.heap.size) (hn : xs.length ≤ 400000) (hm : ys.length ≤ 400000) (hx : digs (val xs) = xs) (hy : digs (val ys) = ys) (g X Y : Nat)
set_option maxHeartbeats 4000000 in
include ht hh hn hm hx hy in
set_option maxHeartbeats 4000000 in
include ht hh hn hm hx hy in
include ht hh hn hm hx hy in
end
end Go.Proofs.YtjklefkkdaelnaaDoor
