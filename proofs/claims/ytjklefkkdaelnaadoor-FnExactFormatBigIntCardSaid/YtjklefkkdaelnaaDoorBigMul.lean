/- BigIntMul. -/
import Derived.Test.YtjklefkkdaelnaaDoorBigCmp
import Derived.Test.YtjklefkkdaelnaaDoorNatMul
namespace Go.Proofs.YtjklefkkdaelnaaDoor
set_option linter.unusedVariables false
set_option linter.unusedSimpArgs false
open Go.RowKit
def bigMulB (n : Bool) (xs : List Int) (m : Bool) (ys : List Int) : BI := mkBI (n != m) (digs (val xs * val ys))
theorem ifBigInt_yes (n : Bool) (p : Option Addr) (k c : Nat) (w : World) (h : k ≤ 60) :
    Calls Tryd.prog 87 #[.agg #[.bool n, .slice p k c]] w fun e w' => e = .returned (.agg #[.bool n, .slice p k c]) ∧ Below w.heap.size w w' := by
  have h1 : decide (60 < k) = false := by simp; omega
  go_enter Tryd.func87, Tryd.ntmps87
  go_wp2
  exact bodyPost_ret (v := .agg #[.bool n, .slice p k c]) (by simp [results, Tryd.results87, go_sem]) rfl ⟨rfl, ba2 _ _ _⟩
theorem ifBigInt_no (n : Bool) (p : Option Addr) (k c : Nat) (w : World) (h : 60 < k) :
    Calls Tryd.prog 87 #[.agg #[.bool n, .slice p k c]] w fun e w' => e = .returned (.agg #[.bool false, .slice none 0 0]) ∧ Below w.heap.size w w' := by
  have h1 : decide (60 < k) = true := by simp; omega
  go_enter Tryd.func87, Tryd.ntmps87
  go_wp2
  exact bodyPost_ret (v := .agg #[.bool false, .slice none 0 0]) (by simp [results, Tryd.results87, go_sem]) rfl ⟨rfl, ba2 _ _ _⟩
section
variable (n : Bool) (a : Option Addr) (ca : Nat) (xs : List Int) (m : Bool) (b : Option Addr) (cb : Nat) (ys : List Int) (w : World) (ha : IntsAt w a ca xs) (hn : xs.length ≤ 500000) (hb : IntsAt w b cb ys) (hm : ys.length ≤ 500000) (hx : Rng xs) (hy : Rng ys)
include ha hn hb hm hx hy
set_option maxHeartbeats 2000000 in
theorem bigMul_any : Calls Tryd.prog 91 #[.agg #[.bool n, .slice a xs.length ca], .agg #[.bool m, .slice b ys.length cb]] w fun e w' => ∃ p c', e = .returned (.agg #[.bool (bigMulB n xs m ys).neg, .slice p (bigMulB n xs m ys).mag.length c']) ∧
    OwnI w' w.heap.size w'.heap.size (.slice p (bigMulB n xs m ys).mag.length c') (bigMulB n xs m ys).mag ∧ Below w.heap.size w w' := by
  have HA := Lib.hid ha
  have HB := Lib.hid hb
  have HX := Lib.hid hx
  have HY := Lib.hid hy
  clear ha hb hx hy
  have R0 : Box (((w.alloc (.cells #[.bool n, .slice a xs.length ca] 39)).alloc (.cells #[.bool m, .slice b ys.length cb] 39)).alloc (.cells #[.bool false, .slice none 0 0] 39)) w.heap.size #[.bool n, .slice a xs.length ca] := box_new0 (ba2 _ _ _)
  have R1 : Box (((w.alloc (.cells #[.bool n, .slice a xs.length ca] 39)).alloc (.cells #[.bool m, .slice b ys.length cb] 39)).alloc (.cells #[.bool false, .slice none 0 0] 39)) (w.heap.size + 1) #[.bool m, .slice b ys.length cb] := box_top (ba1 _ _)
  have R2 : Box (((w.alloc (.cells #[.bool n, .slice a xs.length ca] 39)).alloc (.cells #[.bool m, .slice b ys.length cb] 39)).alloc (.cells #[.bool false, .slice none 0 0] 39)) (w.heap.size + 2) #[.bool false, .slice none 0 0] := by
    have := box_new0 (w := (w.alloc (.cells #[.bool n, .slice a xs.length ca] 39)).alloc (.cells #[.bool m, .slice b ys.length cb] 39)) (cs := #[.bool false, .slice none 0 0]) (t := 39) (Below.refl _ _)
    simpa only [World.size_alloc] using this
  have X0 : (((w.alloc (.cells #[.bool n, .slice a xs.length ca] 39)).alloc (.cells #[.bool m, .slice b ys.length cb] 39)).alloc (.cells #[.bool false, .slice none 0 0] 39)).cell? ⟨w.heap.size, 0, none⟩ = some (.bool n) := R0.cell 0 rfl
  have X1 : (((w.alloc (.cells #[.bool n, .slice a xs.length ca] 39)).alloc (.cells #[.bool m, .slice b ys.length cb] 39)).alloc (.cells #[.bool false, .slice none 0 0] 39)).cell? ⟨w.heap.size, 1, none⟩ = some (.slice a xs.length ca) := R0.cell 1 rfl
  have X2 : (((w.alloc (.cells #[.bool n, .slice a xs.length ca] 39)).alloc (.cells #[.bool m, .slice b ys.length cb] 39)).alloc (.cells #[.bool false, .slice none 0 0] 39)).cell? ⟨w.heap.size + 1, 0, none⟩ = some (.bool m) := R1.cell 0 rfl
  have X3 : (((w.alloc (.cells #[.bool n, .slice a xs.length ca] 39)).alloc (.cells #[.bool m, .slice b ys.length cb] 39)).alloc (.cells #[.bool false, .slice none 0 0] 39)).cell? ⟨w.heap.size + 1, 1, none⟩ = some (.slice b ys.length cb) := R1.cell 1 rfl
  have B1 : Hid (Below w.heap.size w (((w.alloc (.cells #[.bool n, .slice a xs.length ca] 39)).alloc (.cells #[.bool m, .slice b ys.length cb] 39)).alloc (.cells #[.bool false, .slice none 0 0] 39))) := Lib.hid (ba3 _ _ _ _)
  go_enter Tryd.func91, Tryd.ntmps91
  go_wp2_with fail
  go_region_held3 (fun w' => w'.cell? ⟨w.heap.size, 0, none⟩ = some (.bool n) ∧ w'.cell? ⟨w.heap.size, 1, none⟩ = some (.slice a xs.length ca) ∧ w'.cell? ⟨w.heap.size + 1, 0, none⟩ = some (.bool m) ∧ w'.cell? ⟨w.heap.size + 1, 1, none⟩ = some (.slice b ys.length cb))
    ((first | exact ⟨X0, X1, X2, X3⟩ | exact ⟨cell_stepD X0 b2, cell_stepD X1 b2, cell_stepD X2 b2, cell_stepD X3 b2⟩ | exact ⟨cell_step (cell_stepD X0 b2) b3, cell_step (cell_stepD X1 b2) b3, cell_step (cell_stepD X2 b2) b3, cell_step (cell_stepD X3 b2) b3⟩ | exact ⟨cell_low (cell_low (cell_step (cell_stepD X0 b2) b3) (by first | (simp; done) | (simp; omega) | omega)) (by first | (simp; done) | (simp; omega) | omega), cell_low (cell_low (cell_step (cell_stepD X1 b2) b3) (by first | (simp; done) | (simp; omega) | omega)) (by first | (simp; done) | (simp; omega) | omega), cell_low (cell_low (cell_step (cell_stepD X2 b2) b3) (by first | (simp; done) | (simp; omega) | omega)) (by first | (simp; done) | (simp; omega) | omega), cell_low (cell_low (cell_step (cell_stepD X3 b2) b3) (by first | (simp; done) | (simp; omega) | omega)) (by first | (simp; done) | (simp; omega) | omega)⟩))
    (first | (go_at_call 84; refine (natMul_row a ca xs b cb ys _ (HA.out.below B1.out.drew) (HB.out.below B1.out.drew) hn hm HX.out HY.out).mono ?_; rintro e w2 ⟨v, rfl, ho, b2⟩; obtain ⟨p, c', rfl, hoi⟩ := ho.out) | (go_at_call 125; refine (signed_any (n != m) p (digs (val xs * val ys)).length c' _).mono ?_; rintro e w3 ⟨rfl, b3⟩; have R3 := box_step (box_step (box_drew R2) b2) b3; have Y0 := R3.cell 0 rfl; have Y1 := R3.cell 1 rfl; have F0 := R3.frozen 0; have F1 := R3.frozen 1; have hz3 : w.heap.size + 2 < w3.heap.size := R3.lt))
  have HO := Lib.hid hoi
  have B3 := Lib.hid (bstep (bstepD B1.out b2) b3)
  have hlo2 := b2.size
  simp at hlo2
  have hlo := b3.size
  clear hoi ho
  have HB3 := Lib.hid b3
  clear b3 b2
  go_wp2
  refine bodyPost_ret (v := .agg #[.bool ((n != m) && decide (0 < (digs (val xs * val ys)).length)), .slice p (digs (val xs * val ys)).length c']) (by simp [results, Tryd.results91, go_sem, Y0, Y1, hz3]) rfl ⟨p, c', rfl, ?_, ?_⟩
  · exact (((HO.out.below HB3.out).low (by first | (simp; done) | (simp; omega) | omega) _).low (by first | (simp; done) | (simp; omega) | omega) _).mono (by first | (simp; done) | (simp; omega) | omega) (by first | (simp; done) | (simp; omega) | omega)
  · exact (B3.out.setCell (by first | (simp; done) | (simp; omega) | omega) _).setCell (by first | (simp; done) | (simp; omega) | omega) _
end
end Go.Proofs.YtjklefkkdaelnaaDoor
