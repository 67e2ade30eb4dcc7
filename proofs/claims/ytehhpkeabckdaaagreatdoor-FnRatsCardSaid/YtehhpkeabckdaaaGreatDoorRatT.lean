/- Fractions: the reference's walks, two fractions. -/
import Derived.Test.YtehhpkeabckdaaaGreatDoorRatN
namespace Go.Proofs.YtehhpkeabckdaaaGreatDoor
set_option linter.unusedVariables false
set_option linter.unusedSimpArgs false
open Go.RowKit
theorem one_atB (w : World) {B : Nat} (hB : B = w.heap.size) : IntsAt (w.alloc (.cells #[.int .i64 1] 3)) (some ⟨B, 0, none⟩) 1 [1] := by
  subst hB
  have := ints_lit w [1] (fun x hx => by simp at hx; rw [hx]; unfold In64; omega) (by simp [maxLen])
  simpa using this
theorem cmp_mk (n : Bool) (N : Nat) (m : Bool) (M : Nat) : bigCmpL (mkBI n (digs N)).neg (digs N) (mkBI m (digs M)).neg (digs M) = cmpZ (if n then -(N : Int) else N) (if m then -(M : Int) else M) := by
  have e1 : (if n then -(N : Int) else (N : Int)).natAbs = N := by cases n <;> simp
  have e2 : (if m then -(M : Int) else (M : Int)).natAbs = M := by cases m <;> simp
  have h := bigCmpL_ofI (if n then -(N : Int) else N) (if m then -(M : Int) else M)
  rw [← mkBI_any, ← mkBI_any] at h
  exact h
theorem toI_mk (n : Bool) (N : Nat) : toI (mkBI n (digs N)).neg (digs N) = if n then -(N : Int) else N := by
  have h := toI_ofI (if n then -(N : Int) else (N : Int))
  rw [← mkBI_any] at h
  exact h
theorem capI_fit {z : Int} (h : (digs z.natAbs).length ≤ 60) : capI z = ofI z := if_pos h
theorem natAbs_add_lt {x y : Int} {k : Nat} (h1 : (digs x.natAbs).length ≤ k) (h2 : (digs y.natAbs).length ≤ k) : (digs (x + y).natAbs).length ≤ k + 1 := by
  have a1 := digs_lt_pw h1
  have a2 := digs_lt_pw h2
  apply digs_len_le
  rw [pw_succ]
  omega
section
variable (n : Bool) (a : Option Addr) (ca : Nat) (xs : List Int) (b : Option Addr) (cb : Nat) (ds : List Int) (m : Bool) (a2 : Option Addr) (ca2 : Nat) (ys : List Int) (b2 : Option Addr) (cb2 : Nat) (es : List Int) (w : World) (ha : IntsAt w a ca xs) (hn : xs.length ≤ 1048576) (hb : IntsAt w b cb ds) (hm : ds.length ≤ 1048576) (ha2 : IntsAt w a2 ca2 ys) (hn2 : ys.length ≤ 1048576) (hb2 : IntsAt w b2 cb2 es) (hm2 : es.length ≤ 1048576)
end
end Go.Proofs.YtehhpkeabckdaaaGreatDoor
