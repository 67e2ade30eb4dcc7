/- BigIntCmp. -/
import Derived.Test.YtlpnhcoaidmiiaaBig
import Derived.Test.YtlpnhcoaidmiiaaBigNeg
namespace Go.Proofs.Ytlpnhcoaidmiiaa
set_option linter.unusedVariables false
set_option linter.unusedSimpArgs false
open Go.RowKit
def bigCmpL (n : Bool) (xs : List Int) (m : Bool) (ys : List Int) : Int := if n then (if m then cmpL ys xs else -1) else (if m then 1 else cmpL xs ys)
def bigCmpI (n : Bool) (xs : List Int) (m : Bool) (ys : List Int) : Int := if bigOkB n xs && bigOkB m ys then bigCmpL n xs m ys else 0
theorem bigCmpI_yes {n m : Bool} {xs ys : List Int} (h : bigOkB n xs = true) (h2 : bigOkB m ys = true) : bigCmpI n xs m ys = bigCmpL n xs m ys := by unfold bigCmpI; rw [h, h2]; rfl
theorem bigCmpI_no1 {n m : Bool} {xs ys : List Int} (h : bigOkB n xs = false) : bigCmpI n xs m ys = 0 := by unfold bigCmpI; rw [h]; rfl
theorem bigCmpI_no2 {n m : Bool} {xs ys : List Int} (h : bigOkB m ys = false) : bigCmpI n xs m ys = 0 := by unfold bigCmpI; rw [h]; simp
theorem box_top {w w' : World} {cs : Array Value} {t : TypeId} {o : Obj} (b : Below ((w.alloc o).alloc (.cells cs t)).heap.size ((w.alloc o).alloc (.cells cs t)) w') : Box w' (w.heap.size + 1) cs := by
  have h := box_new0 b
  simpa only [World.size_alloc] using h
section
variable (n : Bool) (a : Option Addr) (ca : Nat) (xs : List Int) (m : Bool) (b : Option Addr) (cb : Nat) (ys : List Int) (w : World) (ha : IntsAt w a ca xs) (hn : xs.length ≤ 1048576) (hb : IntsAt w b cb ys) (hm : ys.length ≤ 1048576)
include ha hn hb hm
set_option maxHeartbeats 1000000 in
theorem l03Cmp_any : Calls Try.prog 141 #[.agg #[.bool n, .slice a xs.length ca], .agg #[.bool m, .slice b ys.length cb]] w fun e w' => e = .returned (.int .i64 (bigCmpL n xs m ys)) ∧ Below w.heap.size w w' := by
  have HA := Lib.hid ha
  have HB := Lib.hid hb
  clear ha hb
  cases n with
  | true =>
    cases m with
    | true =>
      go_enter Try.func141, Try.ntmps141
      go_wp2_with fail
      refine (l02Cmp_any _ _ _ _ _ _ _ (HB.out.below (ba2 _ _ _)) (HA.out.below (ba2 _ _ _)) hm hn).mono ?_
      rintro e w1 ⟨rfl, b1⟩
      go_wp2
      go_ret
      exact ⟨ret_int rfl, bstep (ba2 _ _ _) b1⟩
    | false =>
      go_enter Try.func141, Try.ntmps141
      go_wp2
      go_ret
      exact ⟨ret_int rfl, ba2 _ _ _⟩
  | false =>
    cases m with
    | true =>
      go_enter Try.func141, Try.ntmps141
      go_wp2
      go_ret
      exact ⟨ret_int rfl, ba2 _ _ _⟩
    | false =>
      go_enter Try.func141, Try.ntmps141
      go_wp2_with fail
      refine (l02Cmp_any _ _ _ _ _ _ _ (HA.out.below (ba2 _ _ _)) (HB.out.below (ba2 _ _ _)) hn hm).mono ?_
      rintro e w1 ⟨rfl, b1⟩
      go_wp2
      go_ret
      exact ⟨ret_int rfl, bstep (ba2 _ _ _) b1⟩
set_option maxHeartbeats 1000000 in
theorem bigCmp_any : Calls Try.prog 143 #[.agg #[.bool n, .slice a xs.length ca], .agg #[.bool m, .slice b ys.length cb]] w fun e w' => e = .returned (.int .i64 (bigCmpL n xs m ys)) ∧ Below w.heap.size w w' := by
  have HA := Lib.hid ha
  have HB := Lib.hid hb
  clear ha hb
  cases n with
  | true =>
    cases m with
    | true =>
      go_enter Try.func143, Try.ntmps143
      go_wp2_with fail
      refine (natCmp_any _ _ _ _ _ _ _ (HB.out.below (ba2 _ _ _)) (HA.out.below (ba2 _ _ _)) hm hn).mono ?_
      rintro e w1 ⟨rfl, b1⟩
      go_wp2
      go_ret
      exact ⟨ret_int rfl, bstep (ba2 _ _ _) b1⟩
    | false =>
      go_enter Try.func143, Try.ntmps143
      go_wp2
      go_ret
      exact ⟨ret_int rfl, ba2 _ _ _⟩
  | false =>
    cases m with
    | true =>
      go_enter Try.func143, Try.ntmps143
      go_wp2
      go_ret
      exact ⟨ret_int rfl, ba2 _ _ _⟩
    | false =>
      go_enter Try.func143, Try.ntmps143
      go_wp2_with fail
      refine (natCmp_any _ _ _ _ _ _ _ (HA.out.below (ba2 _ _ _)) (HB.out.below (ba2 _ _ _)) hn hm).mono ?_
      rintro e w1 ⟨rfl, b1⟩
      go_wp2
      go_ret
      exact ⟨ret_int rfl, bstep (ba2 _ _ _) b1⟩
end
end Go.Proofs.Ytlpnhcoaidmiiaa
