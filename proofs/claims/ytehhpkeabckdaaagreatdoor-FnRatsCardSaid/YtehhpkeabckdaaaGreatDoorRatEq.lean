/- RatEqual, SamePoint. -/
import Derived.Test.YtehhpkeabckdaaaGreatDoorTyR
namespace Go.Proofs.YtehhpkeabckdaaaGreatDoor
set_option linter.unusedVariables false
set_option linter.unusedSimpArgs false
open Go.RowKit

set_option maxHeartbeats 1000000 in
theorem slicesEqual_any (a b : Option Addr) (ca cb : Nat) (xs ys : List Int) (w : World) (ha : IntsAt w a ca xs) (hb : IntsAt w b cb ys) (hn : xs.length ≤ 1048576) (hm : ys.length ≤ 1048576) :
    Calls Tryz.prog 25 #[.slice a xs.length ca, .slice b ys.length cb] w fun e w' => e = .returned (.bool (decide (xs = ys))) ∧ Below w.heap.size w w' := by
  have HA := Lib.hid ha
  have HB := Lib.hid hb
  clear ha hb
  by_cases hl : xs.length = ys.length
  · have hl1 : ((xs.length : Int) != (ys.length : Int)) = false := by simp [hl]
    have HL := Lib.hid hl
    clear hl
    go_enter Tryz.func25, Tryz.ntmps25
    go_wp2
    go_loopw [13] (fun i wr => ∃ k : Nat, k ≤ xs.length ∧ i = .int .i64 k ∧ xs.take k = ys.take k ∧ Below w.heap.size w wr) (fun i _ => xs.length - (intOf i).toNat)
    case atStart => exact ⟨0, Nat.zero_le _, rfl, rfl, Below.refl _ _⟩
    case round =>
      obtain ⟨k, hk, rfl, heq, hbl⟩ := hrel
      have HE := Lib.hid heq
      have HBL := Lib.hid hbl
      clear heq hbl
      by_cases hlt : k < xs.length
      · obtain ⟨b1, off1, rfl, hc1⟩ := (HA.out.below HBL.out).get hlt
        obtain ⟨b2, off2, rfl, hc2⟩ := (HB.out.below HBL.out).get (k := k) (by have := HL.out; omega)
        have hlt2 : k < ys.length := by have := HL.out; omega
        go_wp2
        go_quiet (fail)
        go_wp2
        · rename_i hne
          go_ret
          refine ⟨ret_bool ?_, HBL.out.trans (below_drewN (Below.refl _ _) _)⟩
          have : xs ≠ ys := by rintro rfl; simp at hne
          simp [this]
        · rename_i heq
          go_roundw
          case rel =>
            refine ⟨k + 1, by omega, by go_num, ?_, HBL.out.trans (below_drewN (Below.refl _ _) _)⟩
            rw [List.take_succ_eq_append_getElem hlt, List.take_succ_eq_append_getElem hlt2, HE.out]
            simp at heq; rw [heq]
          case measure => simp [intOf]; omega
      · go_wp2
        go_ret
        have h1 : k = xs.length := by omega
        have h2 := HL.out
        have h3 := HE.out
        rw [List.take_of_length_le (by omega), List.take_of_length_le (by omega)] at h3
        exact ⟨ret_bool (by simp [h3]), HBL.out⟩
  · have hl1 : ((xs.length : Int) != (ys.length : Int)) = true := by simp; omega
    have hne : decide (xs = ys) = false := by simp; intro h; exact hl (by rw [h])
    rw [hne]
    go_enter Tryz.func25, Tryz.ntmps25
    go_wp2
    go_ret
    exact ⟨rfl, Below.refl _ _⟩
/-- two rats at hand -/
def ratEqB (n : Bool) (xs ds : List Int) (m : Bool) (ys es : List Int) : Bool := (n == m) && decide (xs = ys) && decide (ds = es)
section
variable (n : Bool) (a : Option Addr) (ca : Nat) (xs : List Int) (a2 : Option Addr) (ca2 : Nat) (ds : List Int) (m : Bool) (b : Option Addr) (cb : Nat) (ys : List Int) (b2 : Option Addr) (cb2 : Nat) (es : List Int) (w : World)
  (ha : IntsAt w a ca xs) (hn : xs.length ≤ 1048576) (ha2 : IntsAt w a2 ca2 ds) (hn2 : ds.length ≤ 1048576) (hb : IntsAt w b cb ys) (hm : ys.length ≤ 1048576) (hb2 : IntsAt w b2 cb2 es) (hm2 : es.length ≤ 1048576)
include ha hn ha2 hn2 hb hm hb2 hm2
set_option maxHeartbeats 2000000 in
theorem implRatEqual_any : Calls Tryz.prog 7 #[.agg #[.bool n, .slice a xs.length ca, .slice a2 ds.length ca2], .agg #[.bool m, .slice b ys.length cb, .slice b2 es.length cb2]] w fun e w' => e = .returned (.bool (ratEqB n xs ds m ys es)) ∧ Below w.heap.size w w' := by
  have HA := Lib.hid ha
  have HB := Lib.hid hb
  have HA2 := Lib.hid ha2
  have HB2 := Lib.hid hb2
  clear ha hb ha2 hb2
  by_cases h1 : n = m
  · subst h1
    by_cases h2 : xs = ys
    · have hE : Hid (ratEqB n xs ds n ys es = decide (ds = es)) := by simp [Hid, ratEqB, h2]
      have h2' : decide (xs = ys) = true := decide_eq_true h2
      clear h2
      go_enter Tryz.func7, Tryz.ntmps7
      go_wp2_with fail
      refine (slicesEqual_any a b ca cb xs ys _ (HA.out.below (ba2 _ _ _)) (HB.out.below (ba2 _ _ _)) hn hm).mono ?_
      rintro e W4 ⟨rfl, b4⟩
      have Rx := bx2_0 b4
      have Ry := bx2_1 b4
      have B := Lib.hid (bstep (ba2 _ _ _) b4)
      have sb4 := b4.size
      try simp at sb4
      have Yx0 := Rx.cell 0 rfl
      have Yx1 := Rx.cell 1 rfl
      have Yx2 := Rx.cell 2 rfl
      have Lx := Rx.lt
      have Yy0 := Ry.cell 0 rfl
      have Yy1 := Ry.cell 1 rfl
      have Yy2 := Ry.cell 2 rfl
      have Ly := Ry.lt
      clear b4
      go_wp2_with fail
      refine (slicesEqual_any a2 b2 ca2 cb2 ds es _ (HA2.out.below B.out) (HB2.out.below B.out) hn2 hm2).mono ?_
      rintro e W5 ⟨rfl, b5⟩
      clear Yx0 Yx1 Yx2 Lx Yy0 Yy1 Yy2 Ly
      have Rx := box_step Rx b5
      have Ry := box_step Ry b5
      have B := Lib.hid (bstep B.out b5)
      have sb5 := b5.size
      have Yx0 := Rx.cell 0 rfl
      have Yx1 := Rx.cell 1 rfl
      have Yx2 := Rx.cell 2 rfl
      have Lx := Rx.lt
      have Yy0 := Ry.cell 0 rfl
      have Yy1 := Ry.cell 1 rfl
      have Yy2 := Ry.cell 2 rfl
      have Ly := Ry.lt
      clear b5
      go_wp2
      go_ret
      exact ⟨ret_bool hE.out.symm, B.out⟩
    · have hE : Hid (ratEqB n xs ds n ys es = false) := by simp [Hid, ratEqB, h2]
      have h2' : decide (xs = ys) = false := decide_eq_false h2
      clear h2
      go_enter Tryz.func7, Tryz.ntmps7
      go_wp2_with fail
      refine (slicesEqual_any a b ca cb xs ys _ (HA.out.below (ba2 _ _ _)) (HB.out.below (ba2 _ _ _)) hn hm).mono ?_
      rintro e W6 ⟨rfl, b6⟩
      have Rx := bx2_0 b6
      have Ry := bx2_1 b6
      have B := Lib.hid (bstep (ba2 _ _ _) b6)
      have sb6 := b6.size
      try simp at sb6
      have Yx0 := Rx.cell 0 rfl
      have Yx1 := Rx.cell 1 rfl
      have Yx2 := Rx.cell 2 rfl
      have Lx := Rx.lt
      have Yy0 := Ry.cell 0 rfl
      have Yy1 := Ry.cell 1 rfl
      have Yy2 := Ry.cell 2 rfl
      have Ly := Ry.lt
      clear b6
      go_wp2
      go_ret
      exact ⟨ret_bool hE.out.symm, B.out⟩
  · have hE : Hid (ratEqB n xs ds m ys es = false) := by simp [Hid, ratEqB, h1]
    have h1' : (n == m) = false := beq_eq_false_iff_ne.2 h1
    clear h1
    go_enter Tryz.func7, Tryz.ntmps7
    go_wp2
    go_ret
    exact ⟨ret_bool hE.out.symm, ba2 _ _ _⟩
end
def samePtB (pn0 : Bool) (px0 px1 : List Int) (pn1 : Bool) (px2 px3 : List Int) (qn0 : Bool) (qx0 qx1 : List Int) (qn1 : Bool) (qx2 qx3 : List Int) : Bool := ratEqB pn0 px0 px1 qn0 qx0 qx1 && ratEqB pn1 px2 px3 qn1 qx2 qx3
section
variable (pn0 : Bool) (pa0 : Option Addr) (pc0 : Nat) (px0 : List Int) (pa1 : Option Addr) (pc1 : Nat) (px1 : List Int) (pn1 : Bool) (pa2 : Option Addr) (pc2 : Nat) (px2 : List Int) (pa3 : Option Addr) (pc3 : Nat) (px3 : List Int) (qn0 : Bool) (qa0 : Option Addr) (qc0 : Nat) (qx0 : List Int) (qa1 : Option Addr) (qc1 : Nat) (qx1 : List Int) (qn1 : Bool) (qa2 : Option Addr) (qc2 : Nat) (qx2 : List Int) (qa3 : Option Addr) (qc3 : Nat) (qx3 : List Int) (w : World) (p0 : IntsAt w pa0 pc0 px0) (pl0 : px0.length ≤ 1048576) (p1 : IntsAt w pa1 pc1 px1) (pl1 : px1.length ≤ 1048576) (p2 : IntsAt w pa2 pc2 px2) (pl2 : px2.length ≤ 1048576) (p3 : IntsAt w pa3 pc3 px3) (pl3 : px3.length ≤ 1048576) (q0 : IntsAt w qa0 qc0 qx0) (ql0 : qx0.length ≤ 1048576) (q1 : IntsAt w qa1 qc1 qx1) (ql1 : qx1.length ≤ 1048576) (q2 : IntsAt w qa2 qc2 qx2) (ql2 : qx2.length ≤ 1048576) (q3 : IntsAt w qa3 qc3 qx3) (ql3 : qx3.length ≤ 1048576) 
include p0 pl0 p1 pl1 p2 pl2 p3 pl3 q0 ql0 q1 ql1 q2 ql2 q3 ql3
end
end Go.Proofs.YtehhpkeabckdaaaGreatDoor
