/- Fractions: the reference's walks. -/
import Derived.Deep.RegionHeld3
import Derived.Deep.DeepCutAuto
import Derived.Test.YtjklefkkdaelnaaDoorRatLow
namespace Go.Proofs.YtjklefkkdaelnaaDoor
set_option linter.unusedVariables false
set_option linter.unusedSimpArgs false
open Go.RowKit
theorem bigOf_ofI (z : Int) : bigOf z = ofI z := by
  unfold bigOf mkBI ofI
  congr 1
  by_cases h : z < 0
  · have : 0 < (digs z.natAbs).length := digs_len_pos.2 (by omega)
    rw [decide_eq_true h, decide_eq_true this]; rfl
  · rw [decide_eq_false h]; rfl
theorem ratOf_make {x y : Int} (hx : In64 x) (hy : In64 y) : ratMakeP (bigOf x).neg (bigOf x).mag (bigOf y).neg (bigOf y).mag = ratOfP x y := by
  unfold ratMakeP ratOfP
  rw [bigOf_ofI, bigOf_ofI, ofI_ok (by have := digs3 hx; omega), ofI_ok (by have := digs3 hy; omega)]
  show mkRA (decide (x < 0) != decide (y < 0)) (val (digs x.natAbs)) (val (digs y.natAbs)) = _
  rw [val_digs, val_digs]
theorem ratLit_end {w w2 : World} {lo R : Nat} {u : Value} {xs : List Int} (hR : w.heap.size ≤ R) (hlo : R < lo) (h : FrI w2 lo u xs) (hw : w.heap.size ≤ lo) (b : Below w.heap.size w w2) (u0 u1 u2 : Value) :
    TwoF ((((w2.setCell ⟨R, 0, none⟩ u0).setCell ⟨R, 1, none⟩ u1).setCell ⟨R, 2, none⟩ u2).alloc (.cells #[.int .i64 1] 3)) w.heap.size u (.slice (some ⟨w2.heap.size, 0, none⟩) 1 1) xs [1] ∧
      Below w.heap.size w ((((w2.setCell ⟨R, 0, none⟩ u0).setCell ⟨R, 1, none⟩ u1).setCell ⟨R, 2, none⟩ u2).alloc (.cells #[.int .i64 1] 3)) := by
  have hb := below_put (k := 2) (u := u2) (below_put (k := 1) (u := u1) (below_put (k := 0) (u := u0) b hR) hR) hR
  have hl := (own_one (((w2.setCell ⟨R, 0, none⟩ u0).setCell ⟨R, 1, none⟩ u1).setCell ⟨R, 2, none⟩ u2) (n := 1) (by unfold In64; omega)).toI.fr
  have e : (((w2.setCell ⟨R, 0, none⟩ u0).setCell ⟨R, 1, none⟩ u1).setCell ⟨R, 2, none⟩ u2).heap.size = w2.heap.size := by simp
  rw [e] at hl
  exact ⟨TwoF.of ((((h.put hlo).put hlo).put hlo).below (ba1 _ _)) hl hw b.size, bstep hb (ba1 _ _)⟩
theorem rok_rx {n : Bool} {xs ds : List Int} (h : ratOkB n xs ds = true) : Rng xs := ok_rng (bigOk_nat (ratOk_parts h).1)
theorem rok_rd {n : Bool} {xs ds : List Int} (h : ratOkB n xs ds = true) : Rng ds := ok_rng (ratOk_parts h).2.1
theorem rok_lx {n : Bool} {xs ds : List Int} (h : ratOkB n xs ds = true) : xs.length ≤ 24 := (ratOk_parts h).2.2.2.1
theorem rok_ld {n : Bool} {xs ds : List Int} (h : ratOkB n xs ds = true) : ds.length ≤ 24 := (ratOk_parts h).2.2.2.2.1
theorem l04One_l (b : Option Addr) (cb : Nat) (ds : List Int) (w : World) (hb : IntsAt w b cb ds) (hd : digs (val ds) = ds) : Calls Tryd.prog 102 #[.slice b ds.length cb] w fun e w' => e = .returned (.bool (decide (val ds = 1))) ∧ Below w.heap.size w w' := by
  have h := l04One_any b cb (val ds) w (by rw [hd]; exact hb)
  rw [hd] at h
  exact h
theorem toI_scale (n : Bool) (xs : List Int) (k : Nat) : toI n xs * (k : Int) = if n then -((val xs * k : Nat) : Int) else ((val xs * k : Nat) : Int) := by
  unfold toI
  cases n <;> simp [Int.neg_mul]

section
variable (n : Bool) (a : Option Addr) (ca : Nat) (xs : List Int) (m : Bool) (b : Option Addr) (cb : Nat) (ys : List Int) (w : World) (ha : IntsAt w a ca xs) (hn : xs.length ≤ 1048576) (hb : IntsAt w b cb ys) (hm : ys.length ≤ 1048576)
set_option maxHeartbeats 4000000 in
include ha hn hb hm in
include ha hn hb hm in
end
section
variable (x y : Int) (w : World) (hx : In64 x) (hy : In64 y)
set_option maxHeartbeats 4000000 in
include hx hy in
include hx hy in
set_option maxHeartbeats 4000000 in
include hx in
include hx in
end
section
variable (n : Bool) (a : Option Addr) (ca : Nat) (xs : List Int) (b : Option Addr) (cb : Nat) (ds : List Int) (w : World) (ha : IntsAt w a ca xs) (hn : xs.length ≤ 1048576) (hb : IntsAt w b cb ds) (hm : ds.length ≤ 1048576)
set_option maxHeartbeats 4000000 in
include ha hn hb hm in
end
end Go.Proofs.YtjklefkkdaelnaaDoor
