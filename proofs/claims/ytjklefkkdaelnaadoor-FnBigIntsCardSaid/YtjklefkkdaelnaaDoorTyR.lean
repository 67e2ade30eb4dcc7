/- Fractions: reading, copying, holding against, marking. -/
import Derived.Test.YtjklefkkdaelnaaDoorK2
namespace Go.Proofs.YtjklefkkdaelnaaDoor
set_option linter.unusedVariables false
set_option linter.unusedSimpArgs false
open Go.RowKit

set_option maxHeartbeats 2000000 in
theorem szRat_any (n : Bool) (a : Option Addr) (c : Nat) (xs : List Int) (a2 : Option Addr) (c2 : Nat) (ds : List Int) (k : Int) (w : World) (hk0 : 0 ≤ k) (hk1 : k ≤ 1048576) (hn : xs.length ≤ 9223372036854775807) (hm : ds.length ≤ 9223372036854775807) :
    Calls Tryd.prog 54 #[.agg #[.bool n, .slice a xs.length c, .slice a2 ds.length c2], .int .i64 k] w fun e w' => e = .returned (.int .i64 (if k - (xs.length + ds.length : Nat) < 0 then -1 else k - (xs.length + ds.length : Nat))) ∧ Below w.heap.size w w' := by
  by_cases h1 : k - xs.length < 0
  · rw [if_pos (by omega)]
    go_enter Tryd.func54, Tryd.ntmps54
    go_wp2_with fail
    refine (szBigInt_any n a c xs k _ hk0 hk1 hn).mono ?_
    rintro e W1 ⟨rfl, b1⟩
    have Rx := bx1_0 b1
    have B := Lib.hid (bstep (ba1 _ _) b1)
    have sb1 := b1.size
    try simp at sb1
    have Yx0 := Rx.cell 0 rfl
    have Yx1 := Rx.cell 1 rfl
    have Yx2 := Rx.cell 2 rfl
    have Lx := Rx.lt
    clear b1
    rw [if_pos (by omega)]
    go_wp2
    go_ret
    exact ⟨rfl, B.out⟩
  · by_cases h2 : k - (xs.length + ds.length : Nat) < 0
    · rw [if_pos h2]
      go_enter Tryd.func54, Tryd.ntmps54
      go_wp2_with fail
      refine (szBigInt_any n a c xs k _ hk0 hk1 hn).mono ?_
      rintro e W2 ⟨rfl, b2⟩
      have Rx := bx1_0 b2
      have B := Lib.hid (bstep (ba1 _ _) b2)
      have sb2 := b2.size
      try simp at sb2
      have Yx0 := Rx.cell 0 rfl
      have Yx1 := Rx.cell 1 rfl
      have Yx2 := Rx.cell 2 rfl
      have Lx := Rx.lt
      clear b2
      rw [if_neg (by omega)]
      go_wp2_with fail
      refine (szIntS_any2 a2 c2 ds (k - xs.length) _ (by omega) (by omega) hm).mono ?_
      rintro e W3 ⟨rfl, b3⟩
      clear Yx0 Yx1 Yx2 Lx
      have Rx := box_step Rx b3
      have B := Lib.hid (bstep B.out b3)
      have sb3 := b3.size
      have Yx0 := Rx.cell 0 rfl
      have Yx1 := Rx.cell 1 rfl
      have Yx2 := Rx.cell 2 rfl
      have Lx := Rx.lt
      clear b3
      rw [if_pos (by omega)]
      go_wp2
      go_ret
      exact ⟨rfl, B.out⟩
    · rw [if_neg h2]
      have e : k - xs.length - ds.length = k - (xs.length + ds.length : Nat) := by omega
      have HE := Lib.hid e
      clear e
      go_enter Tryd.func54, Tryd.ntmps54
      go_wp2_with fail
      refine (szBigInt_any n a c xs k _ hk0 hk1 hn).mono ?_
      rintro e W4 ⟨rfl, b4⟩
      have Rx := bx1_0 b4
      have B := Lib.hid (bstep (ba1 _ _) b4)
      have sb4 := b4.size
      try simp at sb4
      have Yx0 := Rx.cell 0 rfl
      have Yx1 := Rx.cell 1 rfl
      have Yx2 := Rx.cell 2 rfl
      have Lx := Rx.lt
      clear b4
      rw [if_neg (by omega)]
      go_wp2_with fail
      refine (szIntS_any2 a2 c2 ds (k - xs.length) _ (by omega) (by omega) hm).mono ?_
      rintro e W5 ⟨rfl, b5⟩
      clear Yx0 Yx1 Yx2 Lx
      have Rx := box_step Rx b5
      have B := Lib.hid (bstep B.out b5)
      have sb5 := b5.size
      have Yx0 := Rx.cell 0 rfl
      have Yx1 := Rx.cell 1 rfl
      have Yx2 := Rx.cell 2 rfl
      have Lx := Rx.lt
      clear b5
      rw [if_neg (by omega)]
      go_wp2
      go_ret
      exact ⟨ret_int HE.out, B.out⟩

set_option maxHeartbeats 2000000 in
theorem toRat_own (n : Bool) (a : Option Addr) (c : Nat) (xs : List Int) (a2 : Option Addr) (c2 : Nat) (ds : List Int) (w : World) (ha : IntsAt w a c xs) (hn : xs.length ≤ 1048576) (hb : IntsAt w a2 c2 ds) (hm : ds.length ≤ 1048576) :
    Calls Tryd.prog 56 #[.agg #[.bool n, .slice a xs.length c, .slice a2 ds.length c2]] w fun e w' => ∃ p d p2 d2, e = .returned (.agg #[.bool n, .slice p xs.length d, .slice p2 ds.length d2]) ∧
      Two w' w.heap.size w'.heap.size (.slice p xs.length d) (.slice p2 ds.length d2) xs ds ∧ Below w.heap.size w w' := by
  have HA := Lib.hid ha
  have HB := Lib.hid hb
  clear ha hb
  go_enter Tryd.func56, Tryd.ntmps56
  go_wp2_with fail
  refine (toBigInt_own n a c xs _ (HA.out.below (ba3 _ _ _ _)) hn).mono ?_
  rintro e W6 ⟨p, d, rfl, hO, b6⟩
  have Rx := bx3_0 b6
  have Rr := bx3_1 b6
  have Ro := bx3_2 b6
  have B := Lib.hid (bstep (ba3 _ _ _ _) b6)
  have sb6 := b6.size
  try simp at sb6
  have O := Lib.hid hO
  clear hO
  have Yx0 := Rx.cell 0 rfl
  have Yx1 := Rx.cell 1 rfl
  have Yx2 := Rx.cell 2 rfl
  have Lx := Rx.lt
  have Yr0 := Rr.cell 0 rfl
  have Yr1 := Rr.cell 1 rfl
  have Yr2 := Rr.cell 2 rfl
  have Lr := Rr.lt
  have Fr0 := Rr.frozen 0
  have Fr1 := Rr.frozen 1
  have Fr2 := Rr.frozen 2
  have Yo0 := Ro.cell 0 rfl
  have Yo1 := Ro.cell 1 rfl
  have Yo2 := Ro.cell 2 rfl
  have Lo := Ro.lt
  have Fo0 := Ro.frozen 0
  have Fo1 := Ro.frozen 1
  have Fo2 := Ro.frozen 2
  clear b6
  go_wp2_with fail
  refine (toIntS_own a2 c2 ds _ (HB.out.below (below_put (R := w.heap.size + 2) (k := 1) (below_put (R := w.heap.size + 2) (k := 0) B.out (by first | omega | (simp; done) | (simp; omega))) (by first | omega | (simp; done) | (simp; omega)))) hm).mono ?_
  rintro e W7 ⟨p2, d2, rfl, hQ, b7⟩
  clear Yx0 Yx1 Yx2 Lx Yr0 Yr1 Yr2 Lr Fr0 Fr1 Fr2 Yo0 Yo1 Yo2 Lo Fo0 Fo1 Fo2
  have Rx := box_step (box_other (R := w.heap.size + 2) (k := 1) (box_other (R := w.heap.size + 2) (k := 0) Rx (by first | omega | (simp; done) | (simp; omega))) (by first | omega | (simp; done) | (simp; omega))) b7
  have Rr := box_step (box_other (R := w.heap.size + 2) (k := 1) (box_other (R := w.heap.size + 2) (k := 0) Rr (by first | omega | (simp; done) | (simp; omega))) (by first | omega | (simp; done) | (simp; omega))) b7
  have Ro : Box W7 (w.heap.size + 2) #[.bool n, .slice p xs.length d, .slice none 0 0] := box_as (box_step (box_put (k := 1) (box_put (k := 0) Ro)) b7) rfl
  have B := Lib.hid (bstep (below_put (R := w.heap.size + 2) (k := 1) (below_put (R := w.heap.size + 2) (k := 0) B.out (by first | omega | (simp; done) | (simp; omega))) (by first | omega | (simp; done) | (simp; omega))) b7)
  have O := Lib.hid (((O.out.put (R := w.heap.size + 2) (k := 0) (by first | omega | (simp; done) | (simp; omega))).put (R := w.heap.size + 2) (k := 1) (by first | omega | (simp; done) | (simp; omega))).below b7)
  have sb7 := b7.size
  try simp at sb7
  have Q := Lib.hid hQ
  clear hQ
  have Yx0 := Rx.cell 0 rfl
  have Yx1 := Rx.cell 1 rfl
  have Yx2 := Rx.cell 2 rfl
  have Lx := Rx.lt
  have Yr0 := Rr.cell 0 rfl
  have Yr1 := Rr.cell 1 rfl
  have Yr2 := Rr.cell 2 rfl
  have Lr := Rr.lt
  have Fr0 := Rr.frozen 0
  have Fr1 := Rr.frozen 1
  have Fr2 := Rr.frozen 2
  have Yo0 := Ro.cell 0 rfl
  have Yo1 := Ro.cell 1 rfl
  have Yo2 := Ro.cell 2 rfl
  have Lo := Ro.lt
  have Fo0 := Ro.frozen 0
  have Fo1 := Ro.frozen 1
  have Fo2 := Ro.frozen 2
  clear b7
  go_wp2
  refine bodyPost_ret (v := .agg #[.bool n, .slice p xs.length d, .slice p2 ds.length d2]) (by simp [results, Tryd.results56, go_sem, Yr0, Yr1, Yr2, Yo0, Yo1, Yo2, Lr, Lo]) rfl ⟨p, d, p2, d2, rfl, ?_⟩
  exact rat_endR (R := w.heap.size + 1) (lo := w.heap.size + 3) (hi := W7.heap.size) (by omega) (by omega) ((Two.of O.out Q.out (by first | omega | (simp; done) | (simp; omega)) (by first | omega | (simp; done) | (simp; omega)) (by first | omega | (simp; done) | (simp; omega)) (by first | omega | (simp; done) | (simp; omega)) (by first | omega | (simp; done) | (simp; omega))).put (R := w.heap.size + 2) (by omega)) (by simp) (below_put B.out (by omega)) _ _ _

set_option maxHeartbeats 2000000 in
theorem eqRat_same (n : Bool) (a : Option Addr) (ca : Nat) (b : Option Addr) (cb : Nat) (xs : List Int) (a2 : Option Addr) (ca2 : Nat) (b2 : Option Addr) (cb2 : Nat) (ds : List Int) (w : World) (ha : IntsAt w a ca xs) (hb : IntsAt w b cb xs) (hn : xs.length ≤ 1048576) (ha2 : IntsAt w a2 ca2 ds) (hb2 : IntsAt w b2 cb2 ds) (hm : ds.length ≤ 1048576) :
    Calls Tryd.prog 58 #[.agg #[.bool n, .slice a xs.length ca, .slice a2 ds.length ca2], .agg #[.bool n, .slice b xs.length cb, .slice b2 ds.length cb2]] w fun e w' => e = .returned (.bool true) ∧ Below w.heap.size w w' := by
  have HA := Lib.hid ha
  have HB := Lib.hid hb
  have HA2 := Lib.hid ha2
  have HB2 := Lib.hid hb2
  clear ha hb ha2 hb2
  go_enter Tryd.func58, Tryd.ntmps58
  go_wp2_with fail
  refine (eqBigInt_same n a ca b cb xs _ (HA.out.below (ba2 _ _ _)) (HB.out.below (ba2 _ _ _)) hn).mono ?_
  rintro e W8 ⟨rfl, b8⟩
  have Rx := bx2_0 b8
  have Ry := bx2_1 b8
  have B := Lib.hid (bstep (ba2 _ _ _) b8)
  have sb8 := b8.size
  try simp at sb8
  have Yx0 := Rx.cell 0 rfl
  have Yx1 := Rx.cell 1 rfl
  have Yx2 := Rx.cell 2 rfl
  have Lx := Rx.lt
  have Yy0 := Ry.cell 0 rfl
  have Yy1 := Ry.cell 1 rfl
  have Yy2 := Ry.cell 2 rfl
  have Ly := Ry.lt
  clear b8
  go_wp2_with fail
  refine (eqIntS_same a2 ca2 b2 cb2 ds _ (HA2.out.below B.out) (HB2.out.below B.out) hm).mono ?_
  rintro e W9 ⟨rfl, b9⟩
  clear Yx0 Yx1 Yx2 Lx Yy0 Yy1 Yy2 Ly
  have Rx := box_step Rx b9
  have Ry := box_step Ry b9
  have B := Lib.hid (bstep B.out b9)
  have sb9 := b9.size
  have Yx0 := Rx.cell 0 rfl
  have Yx1 := Rx.cell 1 rfl
  have Yx2 := Rx.cell 2 rfl
  have Lx := Rx.lt
  have Yy0 := Ry.cell 0 rfl
  have Yy1 := Ry.cell 1 rfl
  have Yy2 := Ry.cell 2 rfl
  have Ly := Ry.lt
  clear b9
  go_wp2
  go_ret
  exact ⟨rfl, B.out⟩

/-- marks of two rows, the second in later blocks -/
def MTwo (w : World) (lo hi : Nat) (u v : Value) (n m : Nat) (k : Int) : Prop := ∃ q, lo ≤ q ∧ q ≤ hi ∧ MarkI w lo q u n k ∧ MarkI w q hi v m (k + n)
theorem MTwo.below {w w' : World} {lo hi n m : Nat} {u v : Value} {k : Int} (h : MTwo w lo hi u v n m k) (b : Below w.heap.size w w') : MTwo w' lo hi u v n m k := let ⟨q, h1, h2, h3, h4⟩ := h; ⟨q, h1, h2, h3.below b, h4.below b⟩
theorem MTwo.span {w w' : World} {lo hi lo2 hi2 n m : Nat} {u v : Value} {k : Int} (h : MTwo w lo hi u v n m k) (s : Span lo2 hi2 w w') (ho : hi ≤ lo2 ∨ hi2 ≤ lo) : MTwo w' lo hi u v n m k :=
  let ⟨q, h1, h2, h3, h4⟩ := h; ⟨q, h1, h2, h3.span s (by omega), h4.span s (by omega)⟩

end Go.Proofs.YtjklefkkdaelnaaDoor
