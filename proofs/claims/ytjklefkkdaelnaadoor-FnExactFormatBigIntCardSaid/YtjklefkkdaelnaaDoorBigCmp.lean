/- BigIntCmp. -/
import Derived.Test.YtjklefkkdaelnaaDoorBig
import Derived.Test.YtjklefkkdaelnaaDoorBigNeg
namespace Go.Proofs.YtjklefkkdaelnaaDoor
set_option linter.unusedVariables false
set_option linter.unusedSimpArgs false
open Go.RowKit
def bigCmpL (n : Bool) (xs : List Int) (m : Bool) (ys : List Int) : Int := if n then (if m then cmpL ys xs else -1) else (if m then 1 else cmpL xs ys)
def bigCmpI (n : Bool) (xs : List Int) (m : Bool) (ys : List Int) : Int := if bigOkB n xs && bigOkB m ys then bigCmpL n xs m ys else 0
theorem bigCmpI_yes {n m : Bool} {xs ys : List Int} (h : bigOkB n xs = true) (h2 : bigOkB m ys = true) : bigCmpI n xs m ys = bigCmpL n xs m ys := by unfold bigCmpI; rw [h, h2]; rfl
theorem bigCmpI_no1 {n m : Bool} {xs ys : List Int} (h : bigOkB n xs = false) : bigCmpI n xs m ys = 0 := by unfold bigCmpI; rw [h]; rfl
theorem bigCmpI_no2 {n m : Bool} {xs ys : List Int} (h : bigOkB m ys = false) : bigCmpI n xs m ys = 0 := by unfold bigCmpI; rw [h]; simp
theorem box_top {w w' : World} {cs : Array Value} {t : TypeId} {o : Obj} (b : Below ((w.alloc o).alloc (.cells cs t)).heap.size ((w.alloc o).alloc (.cells cs t)) w') : Box w' (w.heap.size + 1) cs := by
  have h := box_new0 b
  simpa only [World.size_alloc] using h
section
variable (n : Bool) (a : Option Addr) (ca : Nat) (xs : List Int) (m : Bool) (b : Option Addr) (cb : Nat) (ys : List Int) (w : World) (ha : IntsAt w a ca xs) (hn : xs.length ≤ 1048576) (hb : IntsAt w b cb ys) (hm : ys.length ≤ 1048576)
include ha hn hb hm
set_option maxHeartbeats 1000000 in
theorem bigCmp_any : Calls Tryd.prog 89 #[.agg #[.bool n, .slice a xs.length ca], .agg #[.bool m, .slice b ys.length cb]] w fun e w' => e = .returned (.int .i64 (bigCmpL n xs m ys)) ∧ Below w.heap.size w w' := by
  have HA := Lib.hid ha
  have HB := Lib.hid hb
  clear ha hb
  cases n with
  | true =>
    cases m with
    | true =>
      go_enter Tryd.func89, Tryd.ntmps89
      go_wp2_with fail
      refine (natCmp_any _ _ _ _ _ _ _ (HB.out.below (ba2 _ _ _)) (HA.out.below (ba2 _ _ _)) hm hn).mono ?_
      rintro e w1 ⟨rfl, b1⟩
      go_wp2
      go_ret
      exact ⟨ret_int rfl, bstep (ba2 _ _ _) b1⟩
    | false =>
      go_enter Tryd.func89, Tryd.ntmps89
      go_wp2
      go_ret
      exact ⟨ret_int rfl, ba2 _ _ _⟩
  | false =>
    cases m with
    | true =>
      go_enter Tryd.func89, Tryd.ntmps89
      go_wp2
      go_ret
      exact ⟨ret_int rfl, ba2 _ _ _⟩
    | false =>
      go_enter Tryd.func89, Tryd.ntmps89
      go_wp2_with fail
      refine (natCmp_any _ _ _ _ _ _ _ (HA.out.below (ba2 _ _ _)) (HB.out.below (ba2 _ _ _)) hn hm).mono ?_
      rintro e w1 ⟨rfl, b1⟩
      go_wp2
      go_ret
      exact ⟨ret_int rfl, bstep (ba2 _ _ _) b1⟩
set_option maxHeartbeats 1000000 in
theorem implBigIntCmp_any : Calls Tryd.prog 45 #[.agg #[.bool n, .slice a xs.length ca], .agg #[.bool m, .slice b ys.length cb]] w fun e w' => e = .returned (.int .i64 (bigCmpI n xs m ys)) ∧ Below w.heap.size w w' := by
  have HA := Lib.hid ha
  have HB := Lib.hid hb
  clear ha hb
  by_cases h1 : bigOkB n xs = true
  · by_cases h2 : bigOkB m ys = true
    · have HE := Lib.hid (bigCmpI_yes h1 h2)
      go_enter Tryd.func45, Tryd.ntmps45
      go_wp2_with fail
      refine (implBigIntOk_any n a ca xs _ (HA.out.below (ba2 _ _ _)) hn).mono ?_
      rintro e w1 ⟨rfl, b1⟩
      have R0 := box_new1 b1
      have R1 := box_top b1
      have B1 := Lib.hid (bstep (ba2 _ _ _) b1)
      have Y0 := R0.cell 0 rfl
      have Y1 := R0.cell 1 rfl
      have Z0 := R1.cell 0 rfl
      have Z1 := R1.cell 1 rfl
      clear b1
      go_wp2_with fail
      refine (implBigIntOk_any m b cb ys _ (HB.out.below B1.out) hm).mono ?_
      rintro e w2 ⟨rfl, b2⟩
      have R0 := box_step R0 b2
      have R1 := box_step R1 b2
      have B2 := Lib.hid (bstep B1.out b2)
      have Y0 := R0.cell 0 rfl
      have Y1 := R0.cell 1 rfl
      have Z0 := R1.cell 0 rfl
      have Z1 := R1.cell 1 rfl
      clear b2
      go_wp2_with fail
      refine (bigCmp_any n a ca xs m b cb ys _ (HA.out.below B2.out) hn (HB.out.below B2.out) hm).mono ?_
      rintro e w3 ⟨rfl, b3⟩
      go_wp2
      go_ret
      exact ⟨ret_int HE.out.symm, bstep B2.out b3⟩
    · have h2' := Bool.eq_false_iff.2 h2
      have HE : Hid (bigCmpI n xs m ys = 0) := bigCmpI_no2 h2'
      go_enter Tryd.func45, Tryd.ntmps45
      go_wp2_with fail
      refine (implBigIntOk_any n a ca xs _ (HA.out.below (ba2 _ _ _)) hn).mono ?_
      rintro e w1 ⟨rfl, b1⟩
      have R1 := box_top b1
      have B1 := Lib.hid (bstep (ba2 _ _ _) b1)
      have Z0 := R1.cell 0 rfl
      have Z1 := R1.cell 1 rfl
      clear b1
      go_wp2_with fail
      refine (implBigIntOk_any m b cb ys _ (HB.out.below B1.out) hm).mono ?_
      rintro e w2 ⟨rfl, b2⟩
      go_wp2
      go_ret
      exact ⟨ret_int HE.out.symm, bstep B1.out b2⟩
  · have h1' := Bool.eq_false_iff.2 h1
    have HE : Hid (bigCmpI n xs m ys = 0) := bigCmpI_no1 h1'
    go_enter Tryd.func45, Tryd.ntmps45
    go_wp2_with fail
    refine (implBigIntOk_any n a ca xs _ (HA.out.below (ba2 _ _ _)) hn).mono ?_
    rintro e w1 ⟨rfl, b1⟩
    go_wp2
    go_ret
    exact ⟨ret_int HE.out.symm, bstep (ba2 _ _ _) b1⟩
end
end Go.Proofs.YtjklefkkdaelnaaDoor
