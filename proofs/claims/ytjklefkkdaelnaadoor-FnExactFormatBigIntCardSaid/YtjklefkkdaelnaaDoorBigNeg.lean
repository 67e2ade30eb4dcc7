/- BigIntNeg. -/
import Derived.Test.YtjklefkkdaelnaaDoorBig
import Derived.Deep.RegionHeld3
namespace Go.Proofs.YtjklefkkdaelnaaDoor
set_option linter.unusedVariables false
set_option linter.unusedSimpArgs false
open Go.RowKit

def bigNeg (n : Bool) (xs : List Int) : BI := if bigOkB n xs then mkBI (!n) xs else ⟨false, []⟩
theorem bigOk_nat {n : Bool} {xs : List Int} (h : bigOkB n xs = true) : natOkB xs = true := by unfold bigOkB at h; simp only [Bool.and_eq_true] at h; exact h.1
theorem cap_ok {xs : List Int} (h : natOkB xs = true) : capD (val xs) = xs := by
  unfold capD
  rw [ok_digs h, if_pos (ok_len h)]
theorem bigNeg_ok {n : Bool} {xs : List Int} (h : bigOkB n xs = true) : bigNeg n xs = mkBI (!n) xs := by unfold bigNeg; rw [if_pos h]
theorem bigNeg_no {n : Bool} {xs : List Int} (h : bigOkB n xs = false) : bigNeg n xs = ⟨false, []⟩ := by unfold bigNeg; rw [h]; rfl
theorem bigNeg_len (n : Bool) (xs : List Int) : (bigNeg n xs).mag.length ≤ 1048576 := by
  unfold bigNeg
  split
  · rename_i h; have := ok_len (bigOk_nat h); show xs.length ≤ _; omega
  · simp

theorem zero_big (w : World) (n : Bool) (xs : List Int) (h : bigOkB n xs = false) (w' : World) (b : Below w.heap.size w w') :
    ∃ p c, (.agg #[.bool false, .slice none 0 0] : Value) = .agg #[.bool (bigNeg n xs).neg, .slice p (bigNeg n xs).mag.length c] ∧ OwnI w' w.heap.size w'.heap.size (.slice p (bigNeg n xs).mag.length c) (bigNeg n xs).mag := by
  rw [bigNeg_no h]
  exact ⟨none, 0, rfl, (own_nil _ _).toI⟩

section
variable (n : Bool) (a : Option Addr) (c : Nat) (xs : List Int) (w : World) (ha : IntsAt w a c xs) (hn : xs.length ≤ 1048576)
include ha hn
set_option maxHeartbeats 2000000 in
theorem implBigIntNeg_any : Calls Tryd.prog 90 #[.agg #[.bool n, .slice a xs.length c]] w fun e w' => ∃ p c', e = .returned (.agg #[.bool (bigNeg n xs).neg, .slice p (bigNeg n xs).mag.length c']) ∧
    OwnI w' w.heap.size w'.heap.size (.slice p (bigNeg n xs).mag.length c') (bigNeg n xs).mag ∧ Below w.heap.size w w' := by
  have HA := Lib.hid ha
  clear ha
  by_cases h1 : bigOkB n xs = true
  · have HE := Lib.hid (bigNeg_ok h1)
    go_enter Tryd.func90, Tryd.ntmps90
    go_wp2_with fail
    refine (implBigIntOk_any n a c xs _ (HA.out.below (ba2 _ _ _)) hn).mono ?_
    rintro e w1 ⟨rfl, b1⟩
    have X0 : w1.cell? ⟨w.heap.size, 0, none⟩ = some (.bool n) := (box_new1 b1).cell 0 rfl
    have X1 : w1.cell? ⟨w.heap.size, 1, none⟩ = some (.slice a xs.length c) := (box_new1 b1).cell 1 rfl
    obtain ⟨hc, hf⟩ := bcells b1
    have R1 : Box w1 (w.heap.size + 1) #[.bool false, .slice none 0 0] := by have := box_new0 b1; simpa using this
    have B1 := Lib.hid (bstep (ba2 _ _ _) b1)
    have hz0 : w.heap.size < w1.heap.size := by have := b1.size; simp at this; omega
    have hz1 : w.heap.size + 1 < w1.heap.size := by have := b1.size; simp at this; omega
    clear b1 hc hf
    go_wp2_with fail
    go_region_held3 (fun w' => w'.cell? ⟨w.heap.size, 0, none⟩ = some (.bool n) ∧ w'.cell? ⟨w.heap.size, 1, none⟩ = some (.slice a xs.length c))
      ((first | exact ⟨X0, X1⟩ | exact ⟨cell_stepD X0 b2, cell_stepD X1 b2⟩ | exact ⟨cell_step (cell_stepD X0 b2) b3, cell_step (cell_stepD X1 b2) b3⟩ | exact ⟨cell_low (cell_low (cell_step (cell_stepD X0 b2) b3) (by simp)) (by simp), cell_low (cell_low (cell_step (cell_stepD X1 b2) b3) (by simp)) (by simp)⟩))
      (first | (go_at_call 115; refine (clone_any a c xs _ (HA.out.below B1.out.drew) hn).mono ?_; rintro e w2 ⟨v, rfl, ho, b2⟩; obtain ⟨p, c', rfl, hoi⟩ := ho.out) | (go_at_call 125; refine (signed_any (!n) p xs.length c' _).mono ?_; rintro e w3 ⟨rfl, b3⟩; have R3 := box_step (box_step (box_drew R1) b2) b3; have Y0 := R3.cell 0 rfl; have Y1 := R3.cell 1 rfl; have F0 := R3.frozen 0; have F1 := R3.frozen 1; have hz3 : w.heap.size + 1 < w3.heap.size := R3.lt))
    have HO := Lib.hid hoi
    have B3 := Lib.hid (bstep (bstepD B1.out b2) b3)
    have hlo := b3.size
    have hlo2 := b2.size
    simp at hlo2
    clear hoi ho
    have HB3 := Lib.hid b3
    clear b3 b2
    go_wp2
    refine bodyPost_ret (v := .agg #[.bool (!n && decide (0 < xs.length)), .slice p xs.length c']) (by simp [results, Tryd.results90, go_sem, Y0, Y1, hz3]) rfl ⟨p, c', by rw [HE.out]; rfl, ?_, ?_⟩
    · rw [HE.out]
      exact (((HO.out.below HB3.out).low (by simp; omega) _).low (by simp; omega) _).mono (by simp; omega) (by simp; omega)
    · exact (B3.out.setCell (by simp) _).setCell (by simp) _
  · have h1' := Bool.eq_false_iff.2 h1
    have HZ := Lib.hid (zero_big w n xs h1')
    go_enter Tryd.func90, Tryd.ntmps90
    go_wp2_with fail
    refine (implBigIntOk_any n a c xs _ (HA.out.below (ba2 _ _ _)) hn).mono ?_
    rintro e w1 ⟨rfl, b1⟩
    obtain ⟨hc, hf⟩ := bcells b1
    have B1 := Lib.hid (bstep (ba2 _ _ _) b1)
    clear b1
    go_wp2
    obtain ⟨p, c', e1, h1⟩ := HZ.out _ ((B1.out.setCell (p := ⟨w.heap.size + 1, 0, none⟩) (by simp) (.bool false)).setCell (p := ⟨w.heap.size + 1, 1, none⟩) (by simp) (.slice none 0 0))
    exact bodyPost_ret (v := .agg #[.bool false, .slice none 0 0]) (by simp [results, Tryd.results90, go_sem, hc]) rfl ⟨p, c', by rw [e1], h1, (B1.out.setCell (by simp) _).setCell (by simp) _⟩

end
end Go.Proofs.YtjklefkkdaelnaaDoor
