/- Points: the program. -/
import Derived.Deep.RegionHeld3
import Derived.Test.YtjklefkkdaelnaaGreatDoorRatKLM
import Derived.Test.YtjklefkkdaelnaaGreatDoorPt
namespace Go.Proofs.YtjklefkkdaelnaaGreatDoor
set_option linter.unusedVariables false
set_option linter.unusedSimpArgs false
open Go.RowKit

theorem implRatAdd_R (r s T : RA) (hT : addRA r s = T) (a : Option Addr) (ca : Nat) (b : Option Addr) (cb : Nat) (a2 : Option Addr) (ca2 : Nat) (b2 : Option Addr) (cb2 : Nat) (w : World) (i1 : IntsAt w a ca r.num) (i2 : IntsAt w b cb r.den) (hr : LenRA r) (i3 : IntsAt w a2 ca2 s.num) (i4 : IntsAt w b2 cb2 s.den) (hs : LenRA s) :
    Calls Tryz.prog 20 #[.agg #[.bool r.neg, .slice a r.num.length ca, .slice b r.den.length cb], .agg #[.bool s.neg, .slice a2 s.num.length ca2, .slice b2 s.den.length cb2]] w (RatRet w T) := by
  subst hT
  exact implRatAdd_any r.neg a ca r.num b cb r.den s.neg a2 ca2 s.num b2 cb2 s.den w i1 hr.1 i2 hr.2 i3 hs.1 i4 hs.2

theorem implRatSub_R (r s T : RA) (hT : subRA r s = T) (a : Option Addr) (ca : Nat) (b : Option Addr) (cb : Nat) (a2 : Option Addr) (ca2 : Nat) (b2 : Option Addr) (cb2 : Nat) (w : World) (i1 : IntsAt w a ca r.num) (i2 : IntsAt w b cb r.den) (hr : LenRA r) (i3 : IntsAt w a2 ca2 s.num) (i4 : IntsAt w b2 cb2 s.den) (hs : LenRA s) :
    Calls Tryz.prog 19 #[.agg #[.bool r.neg, .slice a r.num.length ca, .slice b r.den.length cb], .agg #[.bool s.neg, .slice a2 s.num.length ca2, .slice b2 s.den.length cb2]] w (RatRet w T) := by
  subst hT
  exact implRatSub_any r.neg a ca r.num b cb r.den s.neg a2 ca2 s.num b2 cb2 s.den w i1 hr.1 i2 hr.2 i3 hs.1 i4 hs.2

theorem implRatMul_R (r s T : RA) (hT : mulRA r s = T) (a : Option Addr) (ca : Nat) (b : Option Addr) (cb : Nat) (a2 : Option Addr) (ca2 : Nat) (b2 : Option Addr) (cb2 : Nat) (w : World) (i1 : IntsAt w a ca r.num) (i2 : IntsAt w b cb r.den) (hr : LenRA r) (i3 : IntsAt w a2 ca2 s.num) (i4 : IntsAt w b2 cb2 s.den) (hs : LenRA s) :
    Calls Tryz.prog 25 #[.agg #[.bool r.neg, .slice a r.num.length ca, .slice b r.den.length cb], .agg #[.bool s.neg, .slice a2 s.num.length ca2, .slice b2 s.den.length cb2]] w (RatRet w T) := by
  subst hT
  exact implRatMul_any r.neg a ca r.num b cb r.den s.neg a2 ca2 s.num b2 cb2 s.den w i1 hr.1 i2 hr.2 i3 hs.1 i4 hs.2

section
variable (r s : RA) (a : Option Addr) (ca : Nat) (b : Option Addr) (cb : Nat) (a2 : Option Addr) (ca2 : Nat) (b2 : Option Addr) (cb2 : Nat) (w : World)
end

set_option maxHeartbeats 2000000 in
theorem implIsValidPoint_any (n : Bool) (a : Option Addr) (ca : Nat) (xs : List Int) (b : Option Addr) (cb : Nat) (ds : List Int) (m : Bool) (a2 : Option Addr) (ca2 : Nat) (ys : List Int) (b2 : Option Addr) (cb2 : Nat) (es : List Int) (w : World) (ha : IntsAt w a ca xs) (hn : xs.length ≤ 1048576) (hb : IntsAt w b cb ds) (hm : ds.length ≤ 1048576) (ha2 : IntsAt w a2 ca2 ys) (hn2 : ys.length ≤ 1048576) (hb2 : IntsAt w b2 cb2 es) (hm2 : es.length ≤ 1048576) : Calls Tryz.prog 31 #[.agg #[.bool n, .slice a xs.length ca, .slice b ds.length cb, .bool m, .slice a2 ys.length ca2, .slice b2 es.length cb2]] w fun e w' => e = .returned (.bool (ratOkB n xs ds && ratOkB m ys es)) ∧ Below w.heap.size w w' := by
  obtain ⟨v, hv⟩ : ∃ v, (ratOkB n xs ds && ratOkB m ys es) = v := ⟨_, rfl⟩
  have HV := Lib.hid hv
  have HA := Lib.hid ha
  have HB := Lib.hid hb
  have HA2 := Lib.hid ha2
  have HB2 := Lib.hid hb2
  rw [hv]
  clear ha hb ha2 hb2 hv
  go_enter Tryz.func31, Tryz.ntmps31
  go_wp2_with fail
  refine (areRats_any n a ca xs b cb ds m a2 ca2 ys b2 cb2 es _ (HA.out.below (bstep (ba1 _ _) (bstep (Below.refl _ _) (ba1 _ _)))) hn (HB.out.below (bstep (ba1 _ _) (bstep (Below.refl _ _) (ba1 _ _)))) hm (HA2.out.below (bstep (ba1 _ _) (bstep (Below.refl _ _) (ba1 _ _)))) hn2 (HB2.out.below (bstep (ba1 _ _) (bstep (Below.refl _ _) (ba1 _ _)))) hm2 (w.heap.size + 1) (bx2_1 (Below.refl _ _)) v HV.out).mono ?_
  rintro e W6 ⟨rfl, b6⟩
  replace b6 := bstep (bstep (Below.refl _ _) (ba1 _ _)) b6
  have Rx := bx1_0 b6
  have B := Lib.hid (bstep (ba1 _ _) b6)
  have sb6 := b6.size
  try simp at sb6
  have Yx0 := Rx.cell 0 rfl
  have Yx1 := Rx.cell 1 rfl
  have Yx2 := Rx.cell 2 rfl
  have Yx3 := Rx.cell 3 rfl
  have Yx4 := Rx.cell 4 rfl
  have Yx5 := Rx.cell 5 rfl
  have Lx := Rx.lt
  clear b6
  go_wp2
  go_ret
  exact ⟨rfl, B.out⟩

end Go.Proofs.YtjklefkkdaelnaaGreatDoor
