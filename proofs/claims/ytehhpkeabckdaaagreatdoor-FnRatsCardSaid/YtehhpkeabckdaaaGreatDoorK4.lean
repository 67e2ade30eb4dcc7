/- Joined: Big, BigNeg, BigOf, BigCmp, BigMul, BigLaw, BigMulW, BigAdd. -/
import Derived.Test.YtehhpkeabckdaaaGreatDoorK2
import Derived.Deep.RegionHeld3
import Derived.Test.YtehhpkeabckdaaaGreatDoorK3
namespace Go.Proofs.YtehhpkeabckdaaaGreatDoor
set_option linter.unusedVariables false
set_option linter.unusedSimpArgs false
section
open Go.RowKit

structure BI where
  neg : Bool
  mag : List Int
def mkBI (n : Bool) (xs : List Int) : BI := ⟨n && decide (0 < xs.length), xs⟩

set_option maxHeartbeats 1000000 in
theorem l03Make_any (n : Bool) (a : Option Addr) (c : Nat) (xs : List Int) (w : World) (ha : IntsAt w a c xs) (hn : xs.length ≤ 1048576) (hr : Rng xs) :
    Calls Tryz.prog 86 #[.bool n, .slice a xs.length c] w fun e w' => ∃ b c', e = .returned (.agg #[.bool (mkBI n (capD (val xs))).neg, .slice b (capD (val xs)).length c']) ∧
      OwnI w' w.heap.size w'.heap.size (.slice b (capD (val xs)).length c') (capD (val xs)) ∧ Below w.heap.size w w' := by
  have HA := Lib.hid ha
  have HR := Lib.hid hr
  clear ha hr
  have hlen : (capD (val xs)).length ≤ 60 := capD_len _
  go_enter Tryz.func86, Tryz.ntmps86
  go_wp2_with fail
  refine (l02Cap_any a c xs _ (HA.out.below (ba1 _ _)) hn HR.out).mono ?_
  rintro e w1 ⟨⟨b, c', rfl, hi⟩, rfl⟩
  have HN : Hid ((mkBI n (capD (val xs))).neg = (n && decide (0 < (capD (val xs)).length))) := rfl
  have HI := Lib.hid hi
  clear hi
  have fin : ∀ (v' : Value) (w2 : World), Own 3 w2 (w.heap.size + 1) v' (capD (val xs)) → Below (w.heap.size + 1) (w.alloc (.cells #[.bool false, .slice none 0 0] 25)) w2 → ∀ u1 u2,
      OwnI ((w2.setCell ⟨w.heap.size, 0, none⟩ u1).setCell ⟨w.heap.size, 1, none⟩ u2) w.heap.size ((w2.setCell ⟨w.heap.size, 0, none⟩ u1).setCell ⟨w.heap.size, 1, none⟩ u2).heap.size v' (capD (val xs)) ∧
        Below w.heap.size w ((w2.setCell ⟨w.heap.size, 0, none⟩ u1).setCell ⟨w.heap.size, 1, none⟩ u2) := by
    intro v' w2 ho hb u1 u2
    exact ⟨((ho.toI.low (by simp) _).low (by simp) _).mono (by omega) (by simp), (((ba1 w _).trans (hb.mono (by omega))).setCell (by simp) _).setCell (by simp) _⟩
  have FIN := Lib.hid fin
  clear fin
  cases b with
  | none =>
    have hz : capD (val xs) = [] := by
      rcases HI.out.at_ with h | ⟨b, off, h, _⟩
      · exact h
      · cases h
    have hc0 : c' = 0 := HI.out.nil0 rfl
    have HZ := Lib.hid hz
    subst hc0
    rw [hz]
    clear hz
    have HW : Hid (OwnI ((w.alloc (.cells #[.bool false, .slice (some ⟨w.heap.size + 1, 0, none⟩) 0 0] 25)).alloc (.cells #[] 3)) w.heap.size ((w.alloc (.cells #[.bool false, .slice (some ⟨w.heap.size + 1, 0, none⟩) 0 0] 25)).alloc (.cells #[] 3)).heap.size (.slice (some ⟨w.heap.size + 1, 0, none⟩) 0 0) []) :=
      (own_emptyB _ (B := w.heap.size + 1) (by simp)).toI.mono (by omega) (Nat.le_refl _)
    cases n with
    | true =>
      go_wp2_with (at_builtin; go_must (refine append_none (own_emptyB _ (B := w.heap.size + 1) (by simp)) rfl _ _ rfl rfl rfl ?_))
      refine bodyPost_ret (v := .agg #[.bool false, .slice (some ⟨w.heap.size + 1, 0, none⟩) 0 0]) (by simp [results, Tryz.results86, go_sem]) rfl ⟨_, 0, by rw [HZ.out]; rfl, by rw [HZ.out]; exact HW.out, ba2 _ _ _⟩
    | false =>
      go_wp2_with (at_builtin; go_must (refine append_none (own_emptyB _ (B := w.heap.size + 1) (by simp)) rfl _ _ rfl rfl rfl ?_))
      refine bodyPost_ret (v := .agg #[.bool false, .slice (some ⟨w.heap.size + 1, 0, none⟩) 0 0]) (by simp [results, Tryz.results86, go_sem]) rfl ⟨_, 0, by rw [HZ.out]; rfl, by rw [HZ.out]; exact HW.out, ba2 _ _ _⟩
  | some ad =>
    cases n with
    | true =>
      go_wp2_with (at_builtin; go_must (refine append_src (own_emptyB _ (B := w.heap.size + 1) (by simp)) (HI.out.below (ba1 _ _)) (by simp; omega) (by simp) rfl _ _ rfl rfl rfl ?_); intro v' w1 hown1 hb1 _; simp only [List.nil_append] at hown1; obtain ⟨vb, vc, rfl, _⟩ := hown1.form; obtain ⟨hc, hf⟩ := bcellsB hb1; have HO := Lib.hid hown1; have HB := Lib.hid (((Below.refl _ _).alloc (by simp) _).trans hb1); clear hown1 hb1)
      exact bodyPost_ret (v := .agg #[.bool (mkBI true (capD (val xs))).neg, .slice vb (capD (val xs)).length vc]) (by simp [results, Tryz.results86, go_sem, hc, mkBI]) rfl ⟨vb, vc, rfl, FIN.out _ _ HO.out HB.out _ _⟩
    | false =>
      go_wp2_with (at_builtin; go_must (refine append_src (own_emptyB _ (B := w.heap.size + 1) (by simp)) (HI.out.below (ba1 _ _)) (by simp; omega) (by simp) rfl _ _ rfl rfl rfl ?_); intro v' w1 hown1 hb1 _; simp only [List.nil_append] at hown1; obtain ⟨vb, vc, rfl, _⟩ := hown1.form; obtain ⟨hc, hf⟩ := bcellsB hb1; have HO := Lib.hid hown1; have HB := Lib.hid (((Below.refl _ _).alloc (by simp) _).trans hb1); clear hown1 hb1)
      exact bodyPost_ret (v := .agg #[.bool (mkBI false (capD (val xs))).neg, .slice vb (capD (val xs)).length vc]) (by simp [results, Tryz.results86, go_sem, hc, mkBI]) rfl ⟨vb, vc, rfl, FIN.out _ _ HO.out HB.out _ _⟩

/-- 'signed': the magnitude is handed on as it is -/
theorem signed_any (n : Bool) (a : Option Addr) (k c : Nat) (w : World) :
    Calls Tryz.prog 58 #[.bool n, .slice a k c] w fun e w' => e = .returned (.agg #[.bool (n && decide (0 < k)), .slice a k c]) ∧ Below w.heap.size w w' := by
  cases n with
  | true =>
    go_enter Tryz.func58, Tryz.ntmps58
    go_wp2
    exact bodyPost_ret (v := .agg #[.bool (true && decide (0 < k)), .slice a k c]) (by simp [results, Tryz.results58, go_sem]) rfl ⟨rfl, ba1 _ _⟩
  | false =>
    go_enter Tryz.func58, Tryz.ntmps58
    go_wp2
    exact bodyPost_ret (v := .agg #[.bool (false && decide (0 < k)), .slice a k c]) (by simp [results, Tryz.results58, go_sem]) rfl ⟨rfl, ba1 _ _⟩
end
section
open Go.RowKit

def bigNeg (n : Bool) (xs : List Int) : BI := if bigOkB n xs then mkBI (!n) xs else ⟨false, []⟩
theorem bigOk_nat {n : Bool} {xs : List Int} (h : bigOkB n xs = true) : natOkB xs = true := by unfold bigOkB at h; simp only [Bool.and_eq_true] at h; exact h.1
theorem cap_ok {xs : List Int} (h : natOkB xs = true) : capD (val xs) = xs := by
  unfold capD
  rw [ok_digs h, if_pos (ok_len h)]
theorem bigNeg_ok {n : Bool} {xs : List Int} (h : bigOkB n xs = true) : bigNeg n xs = mkBI (!n) xs := by unfold bigNeg; rw [if_pos h]
theorem bigNeg_no {n : Bool} {xs : List Int} (h : bigOkB n xs = false) : bigNeg n xs = ⟨false, []⟩ := by unfold bigNeg; rw [h]; rfl
theorem bigNeg_len (n : Bool) (xs : List Int) : (bigNeg n xs).mag.length ≤ 1048576 := by
  unfold bigNeg
  split
  · rename_i h; have := ok_len (bigOk_nat h); show xs.length ≤ _; omega
  · simp

theorem zero_big (w : World) (n : Bool) (xs : List Int) (h : bigOkB n xs = false) (w' : World) (b : Below w.heap.size w w') :
    ∃ p c, (.agg #[.bool false, .slice none 0 0] : Value) = .agg #[.bool (bigNeg n xs).neg, .slice p (bigNeg n xs).mag.length c] ∧ OwnI w' w.heap.size w'.heap.size (.slice p (bigNeg n xs).mag.length c) (bigNeg n xs).mag := by
  rw [bigNeg_no h]
  exact ⟨none, 0, rfl, (own_nil _ _).toI⟩

section
variable (n : Bool) (a : Option Addr) (c : Nat) (xs : List Int) (w : World) (ha : IntsAt w a c xs) (hn : xs.length ≤ 1048576)
include ha hn
end
end
section
open Go.RowKit

def bigOf (n : Int) : BI := mkBI (decide (n < 0)) (digs n.natAbs)
theorem digs3 {n : Int} (h : In64 n) : (digs n.natAbs).length ≤ 3 := digs_len_le (by unfold In64 at h; unfold pw; omega)
theorem bigOf_len (n : Int) (h : In64 n) : (bigOf n).mag.length ≤ 1048576 := by have := digs3 h; show (digs n.natAbs).length ≤ _; omega
theorem capD_digs {m : Nat} (h : (digs m).length ≤ 60) : capD m = digs m := by unfold capD; rw [if_pos h]

theorem ints_lit (w : World) (xs : List Int) (h : ∀ x ∈ xs, In64 x) (hm : xs.length ≤ maxLen) : IntsAt (w.alloc (.cells (xs.map (Value.int .i64)).toArray 3)) (some ⟨w.heap.size, 0, none⟩) xs.length xs := by
  refine ⟨h, Nat.le_refl _, hm, (fun h => by cases h), .inr ⟨w.heap.size, 0, rfl, by simp, fun j hj => ?_⟩⟩
  rw [World.cell?_alloc_at _ _ _ _ rfl]
  simp [hj]

/-- the result's box behind a call: a value of two cells is stored into it -/
theorem big_end {w w1 w2 : World} {n : Bool} {p : Option Addr} {c lo : Nat} {xs : List Int} (hlo : w.heap.size < lo) (ho : OwnI w2 lo w2.heap.size (.slice p xs.length c) xs) (b : Below w.heap.size w w2) (u1 u2 : Value) :
    OwnI ((w2.setCell ⟨w.heap.size, 0, none⟩ u1).setCell ⟨w.heap.size, 1, none⟩ u2) w.heap.size ((w2.setCell ⟨w.heap.size, 0, none⟩ u1).setCell ⟨w.heap.size, 1, none⟩ u2).heap.size (.slice p xs.length c) xs ∧
      Below w.heap.size w ((w2.setCell ⟨w.heap.size, 0, none⟩ u1).setCell ⟨w.heap.size, 1, none⟩ u2) :=
  ⟨((ho.low hlo _).low hlo _).mono (by omega) (by simp), (b.setCell (by simp) _).setCell (by simp) _⟩

section
variable (n : Int) (w : World) (hn : In64 n)
include hn
set_option maxHeartbeats 1000000 in
theorem specBigIntOf_own : Calls Tryz.prog 66 #[.int .i64 n] w fun e w' => ∃ p c', e = .returned (.agg #[.bool (bigOf n).neg, .slice p (bigOf n).mag.length c']) ∧
    OwnI w' w.heap.size w'.heap.size (.slice p (bigOf n).mag.length c') (bigOf n).mag ∧ Below w.heap.size w w' := by
  have hn' := hn
  unfold In64 at hn
  by_cases h0 : n = -9223372036854775808
  · have hv : val [854775808, 223372036, 9] = n.natAbs := by simp [val]; omega
    have HM : Hid (bigOf n = mkBI true (capD (val [854775808, 223372036, 9]))) := by
      have := digs3 hn'
      rw [Hid, bigOf, hv, capD_digs (by omega), decide_eq_true (by omega : n < 0)]
    have HR : Hid (Rng [854775808, 223372036, 9]) := by unfold Hid; intro x hx; simp at hx; omega
    have hne : (n == -9223372036854775808) = true := by simp [h0]
    clear hv h0
    go_enter Tryz.func66, Tryz.ntmps66
    go_wp2_with fail
    have HI := ints_lit (w.alloc (Obj.cells #[Value.bool false, Value.slice none 0 0] 25)) [854775808, 223372036, 9] (fun x hx => by simp at hx; unfold In64; omega) (by simp [maxLen])
    simp only [List.map_cons, List.map_nil, List.length_cons, List.length_nil, World.size_alloc] at HI
    refine (l03Make_any true _ _ _ _ HI (by simp) HR.out).mono ?_
    rintro e w2 ⟨p2, c2, rfl, ho, b2⟩
    have R2 := box_new1 b2
    have Y0 := R2.cell 0 rfl
    have Y1 := R2.cell 1 rfl
    have F0 := R2.frozen 0
    have F1 := R2.frozen 1
    have hz := R2.lt
    have HO := Lib.hid (big_end (w1 := w) (n := true) (by simp; omega) ho (bstep (ba2 _ _ _) b2))
    clear ho b2 HI
    go_wp2
    refine bodyPost_ret (v := .agg #[.bool (mkBI true (capD (val [854775808, 223372036, 9]))).neg, .slice p2 (capD (val [854775808, 223372036, 9])).length c2]) (by simp [results, Tryz.results66, go_sem, Y0, Y1, hz]) rfl ⟨p2, c2, by rw [HM.out]; rfl, ?_, (HO.out _ _).2⟩
    rw [HM.out]
    exact (HO.out _ _).1
  · by_cases h1 : n < 0
    · have HM : Hid (bigOf n = mkBI true (capD (val (digs (-n).toNat)))) := by
        have := digs3 hn'
        rw [Hid, bigOf, val_digs, show (-n).toNat = n.natAbs by omega, capD_digs (by omega), decide_eq_true h1]
      have hne : (n == -9223372036854775808) = false := by simp [h0]
      have HL := Lib.hid (digs3 hn')
      have HW : Hid (wrap64 (-n) = -n) := by unfold Hid wrap64; omega
      have HEq : Hid ((-n).toNat = n.natAbs) := by unfold Hid; omega
      have HU : Hid (-n ≤ 9223372036854775807) := by unfold Hid; omega
      clear h0
      go_enter Tryz.func66, Tryz.ntmps66
      go_wp2_with fail
      rw [HW.out]
      refine (specNatOf_own (-n) _ HU.out).mono ?_
      rintro e w1 ⟨v, rfl, ho, b1⟩
      obtain ⟨p, c, rfl, hi⟩ := ho.form
      have HI := Lib.hid hi
      have R1 := box_new0 b1
      have B1 := Lib.hid (bstep (ba1 _ _) b1)
      clear ho b1 hi
      go_wp2_with fail
      refine (l03Make_any true p c _ _ HI.out (by rw [HEq.out]; have := HL.out; omega) (digs_rng _)).mono ?_
      rintro e w2 ⟨p2, c2, rfl, ho, b2⟩
      have R2 := box_step R1 b2
      have Y0 := R2.cell 0 rfl
      have Y1 := R2.cell 1 rfl
      have F0 := R2.frozen 0
      have F1 := R2.frozen 1
      have hz := R2.lt
      have HB := Lib.hid (bstep B1.out b2)
      have HO := Lib.hid (big_end (w1 := w) (n := true) R1.lt ho (bstep B1.out b2))
      clear ho b2
      go_wp2
      refine bodyPost_ret (v := .agg #[.bool (mkBI true (capD (val (digs (-n).toNat)))).neg, .slice p2 (capD (val (digs (-n).toNat))).length c2]) (by simp [results, Tryz.results66, go_sem, Y0, Y1, hz]) rfl ⟨p2, c2, by rw [HM.out]; rfl, ?_, (HO.out _ _).2⟩
      rw [HM.out]
      exact (HO.out _ _).1
    · have HM : Hid (bigOf n = mkBI false (capD (val (digs n.toNat)))) := by
        have := digs3 hn'
        rw [Hid, bigOf, val_digs, show n.toNat = n.natAbs by omega, capD_digs (by omega), decide_eq_false h1]
      have hne : (n == -9223372036854775808) = false := by simp [h0]
      have HL := Lib.hid (digs3 hn')
      have HEq : Hid (n.toNat = n.natAbs) := by unfold Hid; omega
      clear h0
      go_enter Tryz.func66, Tryz.ntmps66
      go_wp2_with fail
      refine (specNatOf_own n _ (by omega)).mono ?_
      rintro e w1 ⟨v, rfl, ho, b1⟩
      obtain ⟨p, c, rfl, hi⟩ := ho.form
      have HI := Lib.hid hi
      have R1 := box_new0 b1
      have B1 := Lib.hid (bstep (ba1 _ _) b1)
      clear ho b1 hi
      go_wp2_with fail
      refine (l03Make_any false p c _ _ HI.out (by rw [HEq.out]; have := HL.out; omega) (digs_rng _)).mono ?_
      rintro e w2 ⟨p2, c2, rfl, ho, b2⟩
      have R2 := box_step R1 b2
      have Y0 := R2.cell 0 rfl
      have Y1 := R2.cell 1 rfl
      have F0 := R2.frozen 0
      have F1 := R2.frozen 1
      have hz := R2.lt
      have HO := Lib.hid (big_end (w1 := w) (n := true) R1.lt ho (bstep B1.out b2))
      clear ho b2
      go_wp2
      refine bodyPost_ret (v := .agg #[.bool (mkBI false (capD (val (digs n.toNat)))).neg, .slice p2 (capD (val (digs n.toNat))).length c2]) (by simp [results, Tryz.results66, go_sem, Y0, Y1, hz]) rfl ⟨p2, c2, by rw [HM.out]; rfl, ?_, (HO.out _ _).2⟩
      rw [HM.out]
      exact (HO.out _ _).1

set_option maxHeartbeats 1000000 in
theorem implBigIntOf_any : Calls Tryz.prog 62 #[.int .i64 n] w fun e w' => ∃ p c', e = .returned (.agg #[.bool (bigOf n).neg, .slice p (bigOf n).mag.length c']) ∧
    OwnI w' w.heap.size w'.heap.size (.slice p (bigOf n).mag.length c') (bigOf n).mag ∧ Below w.heap.size w w' := by
  have hn' := hn
  unfold In64 at hn
  by_cases h1 : n < 0
  · have HM : Hid (bigOf n = mkBI true (digs (-n).toNat)) := by
      rw [Hid, bigOf, show (-n).toNat = n.natAbs by omega, decide_eq_true h1]
    have HW : Hid (IntKind.u64.wrap (-IntKind.u64.wrap n) = -n) := by unfold Hid; simp [IntKind.wrap, IntKind.bits, IntKind.signed]; omega
    go_enter Tryz.func62, Tryz.ntmps62
    go_wp2_with fail
    rw [HW.out]
    refine (natOf_any (-n) _ (by omega) (by omega)).mono ?_
    rintro e w1 ⟨v, rfl, ho, b1⟩
    obtain ⟨p, c, rfl, hi⟩ := ho.form
    have HI := Lib.hid ho
    have R1 := box_new0 b1
    have B1 := Lib.hid (bstep (ba1 _ _) b1)
    clear ho b1 hi
    go_wp2_with fail
    refine (signed_any true p _ c _).mono ?_
    rintro e w2 ⟨rfl, b2⟩
    have R2 := box_step R1 b2
    have Y0 := R2.cell 0 rfl
    have Y1 := R2.cell 1 rfl
    have F0 := R2.frozen 0
    have F1 := R2.frozen 1
    have hz := R2.lt
    have HO := Lib.hid (big_end (w1 := w) (n := true) (by simp) ((HI.out.toI.below b2).mono (Nat.le_refl _) b2.size) (bstep B1.out b2))
    clear b2
    go_wp2
    refine bodyPost_ret (v := .agg #[.bool (mkBI true (digs ((-n)).toNat)).neg, .slice p (digs ((-n)).toNat).length c]) (by simp [results, Tryz.results62, go_sem, Y0, Y1, hz, mkBI]) rfl ⟨p, c, by rw [HM.out]; rfl, ?_, (HO.out _ _).2⟩
    rw [HM.out]
    exact (HO.out _ _).1
  · have HM : Hid (bigOf n = mkBI false (digs n.toNat)) := by
      rw [Hid, bigOf, show n.toNat = n.natAbs by omega, decide_eq_false h1]
    go_enter Tryz.func62, Tryz.ntmps62
    go_wp2_with fail
    refine (natOf_any n _ (by omega) (by omega)).mono ?_
    rintro e w1 ⟨v, rfl, ho, b1⟩
    obtain ⟨p, c, rfl, hi⟩ := ho.form
    have HI := Lib.hid ho
    have R1 := box_new0 b1
    have B1 := Lib.hid (bstep (ba1 _ _) b1)
    clear ho b1 hi
    go_wp2_with fail
    refine (signed_any false p _ c _).mono ?_
    rintro e w2 ⟨rfl, b2⟩
    have R2 := box_step R1 b2
    have Y0 := R2.cell 0 rfl
    have Y1 := R2.cell 1 rfl
    have F0 := R2.frozen 0
    have F1 := R2.frozen 1
    have hz := R2.lt
    have HO := Lib.hid (big_end (w1 := w) (n := true) (by simp) ((HI.out.toI.below b2).mono (Nat.le_refl _) b2.size) (bstep B1.out b2))
    clear b2
    go_wp2
    refine bodyPost_ret (v := .agg #[.bool (mkBI false (digs (n).toNat)).neg, .slice p (digs (n).toNat).length c]) (by simp [results, Tryz.results62, go_sem, Y0, Y1, hz, mkBI]) rfl ⟨p, c, by rw [HM.out]; rfl, ?_, (HO.out _ _).2⟩
    rw [HM.out]
    exact (HO.out _ _).1
theorem specBigIntOf_any : Calls Tryz.prog 66 #[.int .i64 n] w fun e w' => ∃ p c', e = .returned (.agg #[.bool (bigOf n).neg, .slice p (bigOf n).mag.length c']) ∧
    IntsAt w' p c' (bigOf n).mag ∧ Below w.heap.size w w' :=
  (specBigIntOf_own n w hn).mono fun _ _ ⟨p, c', h1, h2, h3⟩ => ⟨p, c', h1, h2.ints, h3⟩
end
end
section
open Go.RowKit
def bigCmpL (n : Bool) (xs : List Int) (m : Bool) (ys : List Int) : Int := if n then (if m then cmpL ys xs else -1) else (if m then 1 else cmpL xs ys)
def bigCmpI (n : Bool) (xs : List Int) (m : Bool) (ys : List Int) : Int := if bigOkB n xs && bigOkB m ys then bigCmpL n xs m ys else 0
theorem bigCmpI_yes {n m : Bool} {xs ys : List Int} (h : bigOkB n xs = true) (h2 : bigOkB m ys = true) : bigCmpI n xs m ys = bigCmpL n xs m ys := by unfold bigCmpI; rw [h, h2]; rfl
theorem bigCmpI_no1 {n m : Bool} {xs ys : List Int} (h : bigOkB n xs = false) : bigCmpI n xs m ys = 0 := by unfold bigCmpI; rw [h]; rfl
theorem bigCmpI_no2 {n m : Bool} {xs ys : List Int} (h : bigOkB m ys = false) : bigCmpI n xs m ys = 0 := by unfold bigCmpI; rw [h]; simp
theorem box_top {w w' : World} {cs : Array Value} {t : TypeId} {o : Obj} (b : Below ((w.alloc o).alloc (.cells cs t)).heap.size ((w.alloc o).alloc (.cells cs t)) w') : Box w' (w.heap.size + 1) cs := by
  have h := box_new0 b
  simpa only [World.size_alloc] using h
section
variable (n : Bool) (a : Option Addr) (ca : Nat) (xs : List Int) (m : Bool) (b : Option Addr) (cb : Nat) (ys : List Int) (w : World) (ha : IntsAt w a ca xs) (hn : xs.length ≤ 1048576) (hb : IntsAt w b cb ys) (hm : ys.length ≤ 1048576)
include ha hn hb hm
set_option maxHeartbeats 1000000 in
theorem bigCmp_any : Calls Tryz.prog 60 #[.agg #[.bool n, .slice a xs.length ca], .agg #[.bool m, .slice b ys.length cb]] w fun e w' => e = .returned (.int .i64 (bigCmpL n xs m ys)) ∧ Below w.heap.size w w' := by
  have HA := Lib.hid ha
  have HB := Lib.hid hb
  clear ha hb
  cases n with
  | true =>
    cases m with
    | true =>
      go_enter Tryz.func60, Tryz.ntmps60
      go_wp2_with fail
      refine (natCmp_any _ _ _ _ _ _ _ (HB.out.below (ba2 _ _ _)) (HA.out.below (ba2 _ _ _)) hm hn).mono ?_
      rintro e w1 ⟨rfl, b1⟩
      go_wp2
      go_ret
      exact ⟨ret_int rfl, bstep (ba2 _ _ _) b1⟩
    | false =>
      go_enter Tryz.func60, Tryz.ntmps60
      go_wp2
      go_ret
      exact ⟨ret_int rfl, ba2 _ _ _⟩
  | false =>
    cases m with
    | true =>
      go_enter Tryz.func60, Tryz.ntmps60
      go_wp2
      go_ret
      exact ⟨ret_int rfl, ba2 _ _ _⟩
    | false =>
      go_enter Tryz.func60, Tryz.ntmps60
      go_wp2_with fail
      refine (natCmp_any _ _ _ _ _ _ _ (HA.out.below (ba2 _ _ _)) (HB.out.below (ba2 _ _ _)) hn hm).mono ?_
      rintro e w1 ⟨rfl, b1⟩
      go_wp2
      go_ret
      exact ⟨ret_int rfl, bstep (ba2 _ _ _) b1⟩
end
end
section
open Go.RowKit
def bigMulB (n : Bool) (xs : List Int) (m : Bool) (ys : List Int) : BI := mkBI (n != m) (digs (val xs * val ys))
section
variable (n : Bool) (a : Option Addr) (ca : Nat) (xs : List Int) (m : Bool) (b : Option Addr) (cb : Nat) (ys : List Int) (w : World) (ha : IntsAt w a ca xs) (hn : xs.length ≤ 500000) (hb : IntsAt w b cb ys) (hm : ys.length ≤ 500000) (hx : Rng xs) (hy : Rng ys)
include ha hn hb hm hx hy
set_option maxHeartbeats 2000000 in
theorem bigMul_any : Calls Tryz.prog 36 #[.agg #[.bool n, .slice a xs.length ca], .agg #[.bool m, .slice b ys.length cb]] w fun e w' => ∃ p c', e = .returned (.agg #[.bool (bigMulB n xs m ys).neg, .slice p (bigMulB n xs m ys).mag.length c']) ∧
    OwnI w' w.heap.size w'.heap.size (.slice p (bigMulB n xs m ys).mag.length c') (bigMulB n xs m ys).mag ∧ Below w.heap.size w w' := by
  have HA := Lib.hid ha
  have HB := Lib.hid hb
  have HX := Lib.hid hx
  have HY := Lib.hid hy
  clear ha hb hx hy
  have R0 : Box (((w.alloc (.cells #[.bool n, .slice a xs.length ca] 25)).alloc (.cells #[.bool m, .slice b ys.length cb] 25)).alloc (.cells #[.bool false, .slice none 0 0] 25)) w.heap.size #[.bool n, .slice a xs.length ca] := box_new0 (ba2 _ _ _)
  have R1 : Box (((w.alloc (.cells #[.bool n, .slice a xs.length ca] 25)).alloc (.cells #[.bool m, .slice b ys.length cb] 25)).alloc (.cells #[.bool false, .slice none 0 0] 25)) (w.heap.size + 1) #[.bool m, .slice b ys.length cb] := box_top (ba1 _ _)
  have R2 : Box (((w.alloc (.cells #[.bool n, .slice a xs.length ca] 25)).alloc (.cells #[.bool m, .slice b ys.length cb] 25)).alloc (.cells #[.bool false, .slice none 0 0] 25)) (w.heap.size + 2) #[.bool false, .slice none 0 0] := by
    have := box_new0 (w := (w.alloc (.cells #[.bool n, .slice a xs.length ca] 25)).alloc (.cells #[.bool m, .slice b ys.length cb] 25)) (cs := #[.bool false, .slice none 0 0]) (t := 25) (Below.refl _ _)
    simpa only [World.size_alloc] using this
  have X0 : (((w.alloc (.cells #[.bool n, .slice a xs.length ca] 25)).alloc (.cells #[.bool m, .slice b ys.length cb] 25)).alloc (.cells #[.bool false, .slice none 0 0] 25)).cell? ⟨w.heap.size, 0, none⟩ = some (.bool n) := R0.cell 0 rfl
  have X1 : (((w.alloc (.cells #[.bool n, .slice a xs.length ca] 25)).alloc (.cells #[.bool m, .slice b ys.length cb] 25)).alloc (.cells #[.bool false, .slice none 0 0] 25)).cell? ⟨w.heap.size, 1, none⟩ = some (.slice a xs.length ca) := R0.cell 1 rfl
  have X2 : (((w.alloc (.cells #[.bool n, .slice a xs.length ca] 25)).alloc (.cells #[.bool m, .slice b ys.length cb] 25)).alloc (.cells #[.bool false, .slice none 0 0] 25)).cell? ⟨w.heap.size + 1, 0, none⟩ = some (.bool m) := R1.cell 0 rfl
  have X3 : (((w.alloc (.cells #[.bool n, .slice a xs.length ca] 25)).alloc (.cells #[.bool m, .slice b ys.length cb] 25)).alloc (.cells #[.bool false, .slice none 0 0] 25)).cell? ⟨w.heap.size + 1, 1, none⟩ = some (.slice b ys.length cb) := R1.cell 1 rfl
  have B1 : Hid (Below w.heap.size w (((w.alloc (.cells #[.bool n, .slice a xs.length ca] 25)).alloc (.cells #[.bool m, .slice b ys.length cb] 25)).alloc (.cells #[.bool false, .slice none 0 0] 25))) := Lib.hid (ba3 _ _ _ _)
  go_enter Tryz.func36, Tryz.ntmps36
  go_wp2_with fail
  go_region_held3 (fun w' => w'.cell? ⟨w.heap.size, 0, none⟩ = some (.bool n) ∧ w'.cell? ⟨w.heap.size, 1, none⟩ = some (.slice a xs.length ca) ∧ w'.cell? ⟨w.heap.size + 1, 0, none⟩ = some (.bool m) ∧ w'.cell? ⟨w.heap.size + 1, 1, none⟩ = some (.slice b ys.length cb))
    ((first | exact ⟨X0, X1, X2, X3⟩ | exact ⟨cell_stepD X0 b2, cell_stepD X1 b2, cell_stepD X2 b2, cell_stepD X3 b2⟩ | exact ⟨cell_step (cell_stepD X0 b2) b3, cell_step (cell_stepD X1 b2) b3, cell_step (cell_stepD X2 b2) b3, cell_step (cell_stepD X3 b2) b3⟩ | exact ⟨cell_low (cell_low (cell_step (cell_stepD X0 b2) b3) (by first | (simp; done) | (simp; omega) | omega)) (by first | (simp; done) | (simp; omega) | omega), cell_low (cell_low (cell_step (cell_stepD X1 b2) b3) (by first | (simp; done) | (simp; omega) | omega)) (by first | (simp; done) | (simp; omega) | omega), cell_low (cell_low (cell_step (cell_stepD X2 b2) b3) (by first | (simp; done) | (simp; omega) | omega)) (by first | (simp; done) | (simp; omega) | omega), cell_low (cell_low (cell_step (cell_stepD X3 b2) b3) (by first | (simp; done) | (simp; omega) | omega)) (by first | (simp; done) | (simp; omega) | omega)⟩))
    (first | (go_at_call 37; refine (natMul_row a ca xs b cb ys _ (HA.out.below B1.out.drew) (HB.out.below B1.out.drew) hn hm HX.out HY.out).mono ?_; rintro e w2 ⟨v, rfl, ho, b2⟩; obtain ⟨p, c', rfl, hoi⟩ := ho.out) | (go_at_call 58; refine (signed_any (n != m) p (digs (val xs * val ys)).length c' _).mono ?_; rintro e w3 ⟨rfl, b3⟩; have R3 := box_step (box_step (box_drew R2) b2) b3; have Y0 := R3.cell 0 rfl; have Y1 := R3.cell 1 rfl; have F0 := R3.frozen 0; have F1 := R3.frozen 1; have hz3 : w.heap.size + 2 < w3.heap.size := R3.lt))
  have HO := Lib.hid hoi
  have B3 := Lib.hid (bstep (bstepD B1.out b2) b3)
  have hlo2 := b2.size
  simp at hlo2
  have hlo := b3.size
  clear hoi ho
  have HB3 := Lib.hid b3
  clear b3 b2
  go_wp2
  refine bodyPost_ret (v := .agg #[.bool ((n != m) && decide (0 < (digs (val xs * val ys)).length)), .slice p (digs (val xs * val ys)).length c']) (by simp [results, Tryz.results36, go_sem, Y0, Y1, hz3]) rfl ⟨p, c', rfl, ?_, ?_⟩
  · exact (((HO.out.below HB3.out).low (by first | (simp; done) | (simp; omega) | omega) _).low (by first | (simp; done) | (simp; omega) | omega) _).mono (by first | (simp; done) | (simp; omega) | omega) (by first | (simp; done) | (simp; omega) | omega)
  · exact (B3.out.setCell (by first | (simp; done) | (simp; omega) | omega) _).setCell (by first | (simp; done) | (simp; omega) | omega) _
end
end
section
open Go.RowKit

def toI (n : Bool) (xs : List Int) : Int := if n then -((val xs : Nat) : Int) else ((val xs : Nat) : Int)
def ofI (z : Int) : BI := ⟨decide (z < 0), digs z.natAbs⟩
/-- a result of at most 60 digits, else the zero value -/
def capI (z : Int) : BI := if (digs z.natAbs).length ≤ 60 then ofI z else ⟨false, []⟩

theorem digs_len_pos {N : Nat} : 0 < (digs N).length ↔ 0 < N := by
  rw [List.length_pos_iff]
  constructor
  · intro h; rcases Nat.eq_zero_or_pos N with h0 | h0
    · exact absurd (digs_nil_iff.2 h0) h
    · exact h0
  · intro h h0; have := digs_nil_iff.1 h0; omega
theorem mkBI_pos (N : Nat) : mkBI false (digs N) = ofI (N : Int) := by
  unfold mkBI ofI
  simp
theorem mkBI_neg (N : Nat) : mkBI true (digs N) = ofI (-(N : Int)) := by
  unfold mkBI ofI
  have : decide (0 < (digs N).length) = decide (-(N : Int) < 0) := by rw [decide_eq_decide, digs_len_pos]; omega
  simp [this]
theorem mkBI_any (n : Bool) (N : Nat) : mkBI n (digs N) = ofI (if n then -(N : Int) else N) := by
  cases n
  · exact mkBI_pos N
  · exact mkBI_neg N
theorem mkBI_cap (n : Bool) (N : Nat) : mkBI n (capD N) = capI (if n then -(N : Int) else N) := by
  have e : (if n then -(N : Int) else N).natAbs = N := by cases n <;> simp
  unfold capD capI
  rw [e]
  split
  · exact mkBI_any n N
  · unfold mkBI; cases n <;> rfl
theorem ofI_len (z : Int) : (ofI z).mag = digs z.natAbs := rfl
theorem capI_len (z : Int) : (capI z).mag.length ≤ 1048576 := by
  unfold capI
  split
  · show (digs _).length ≤ _; omega
  · simp
theorem toI_mul (n m : Bool) (xs ys : List Int) : toI n xs * toI m ys = if (n != m) then -((val xs * val ys : Nat) : Int) else ((val xs * val ys : Nat) : Int) := by
  unfold toI
  cases n <;> cases m <;> simp [Int.neg_mul, Int.mul_neg]
theorem toI_same (n : Bool) (xs ys : List Int) : toI n xs + toI n ys = if n then -((val xs + val ys : Nat) : Int) else ((val xs + val ys : Nat) : Int) := by
  unfold toI
  cases n <;> simp <;> omega
theorem toI_first {n m : Bool} {xs ys : List Int} (h : n ≠ m) (hle : val ys ≤ val xs) : toI n xs + toI m ys = if n then -((val xs - val ys : Nat) : Int) else ((val xs - val ys : Nat) : Int) := by
  unfold toI
  cases n <;> cases m <;> simp at h ⊢ <;> omega
theorem toI_second {n m : Bool} {xs ys : List Int} (h : n ≠ m) (hle : val xs ≤ val ys) : toI n xs + toI m ys = if m then -((val ys - val xs : Nat) : Int) else ((val ys - val xs : Nat) : Int) := by
  unfold toI
  cases n <;> cases m <;> simp at h ⊢ <;> omega
theorem toI_not (n : Bool) (xs : List Int) : toI (!n) xs = -toI n xs := by unfold toI; cases n <;> simp
theorem ofI_toI {n : Bool} {xs : List Int} (h : bigOkB n xs = true) : ofI (toI n xs) = ⟨n, xs⟩ := by
  have h1 := ok_digs (bigOk_nat h)
  unfold ofI toI
  cases n
  · simp [h1]
  · have h2 : 0 < xs.length := by unfold bigOkB at h; simp at h; omega
    have h3 : 0 < val xs := by rw [← h1, digs_len_pos] at h2; exact h2
    simp [h1]; omega
theorem toI_ofI (z : Int) : toI (ofI z).neg (ofI z).mag = z := by
  unfold ofI toI
  simp only [val_digs, decide_eq_true_eq]
  split <;> omega
theorem ofI_ok {z : Int} (h : (digs z.natAbs).length ≤ 60) : bigOkB (ofI z).neg (ofI z).mag = true := by
  unfold bigOkB ofI
  simp only [Bool.and_eq_true, Bool.or_eq_true, Bool.not_eq_true', decide_eq_false_iff_not, decide_eq_true_eq, digs_len_pos]
  exact ⟨digs_ok h, by omega⟩
theorem capI_ok (z : Int) : bigOkB (capI z).neg (capI z).mag = true := by
  unfold capI
  split
  · exact ofI_ok ‹_›
  · rfl
theorem bigNeg_toI {n : Bool} {xs : List Int} (h : bigOkB n xs = true) : bigNeg n xs = ofI (-toI n xs) := by
  rw [bigNeg_ok h, ← ok_digs (bigOk_nat h), mkBI_any, ok_digs (bigOk_nat h), ← toI_not]
  unfold toI
  cases n <;> rfl

def bigMulI (n : Bool) (xs : List Int) (m : Bool) (ys : List Int) : BI := if bigOkB n xs && bigOkB m ys then capI (toI n xs * toI m ys) else ⟨false, []⟩
def bigAddI (n : Bool) (xs : List Int) (m : Bool) (ys : List Int) : BI := if bigOkB n xs && bigOkB m ys then capI (toI n xs + toI m ys) else ⟨false, []⟩
def bigSubI (n : Bool) (xs : List Int) (m : Bool) (ys : List Int) : BI := if bigOkB n xs && bigOkB m ys then capI (toI n xs - toI m ys) else ⟨false, []⟩
section
variable {n m : Bool} {xs ys : List Int}
theorem bigMulI_yes (h : bigOkB n xs = true) (h2 : bigOkB m ys = true) : bigMulI n xs m ys = capI (toI n xs * toI m ys) := by unfold bigMulI; rw [h, h2]; rfl
theorem bigMulI_no1 (h : bigOkB n xs = false) : bigMulI n xs m ys = ⟨false, []⟩ := by unfold bigMulI; rw [h]; rfl
theorem bigMulI_no2 (h : bigOkB m ys = false) : bigMulI n xs m ys = ⟨false, []⟩ := by unfold bigMulI; rw [h]; simp
theorem bigAddI_yes (h : bigOkB n xs = true) (h2 : bigOkB m ys = true) : bigAddI n xs m ys = capI (toI n xs + toI m ys) := by unfold bigAddI; rw [h, h2]; rfl
theorem bigAddI_no1 (h : bigOkB n xs = false) : bigAddI n xs m ys = ⟨false, []⟩ := by unfold bigAddI; rw [h]; rfl
theorem bigAddI_no2 (h : bigOkB m ys = false) : bigAddI n xs m ys = ⟨false, []⟩ := by unfold bigAddI; rw [h]; simp
theorem bigSubI_yes (h : bigOkB n xs = true) (h2 : bigOkB m ys = true) : bigSubI n xs m ys = capI (toI n xs - toI m ys) := by unfold bigSubI; rw [h, h2]; rfl
theorem bigSubI_no1 (h : bigOkB n xs = false) : bigSubI n xs m ys = ⟨false, []⟩ := by unfold bigSubI; rw [h]; rfl
theorem bigSubI_no2 (h : bigOkB m ys = false) : bigSubI n xs m ys = ⟨false, []⟩ := by unfold bigSubI; rw [h]; simp
end
theorem bigMulI_len (n : Bool) (xs : List Int) (m : Bool) (ys : List Int) : (bigMulI n xs m ys).mag.length ≤ 1048576 := by
  unfold bigMulI; split
  · exact capI_len _
  · simp
theorem bigAddI_len (n : Bool) (xs : List Int) (m : Bool) (ys : List Int) : (bigAddI n xs m ys).mag.length ≤ 1048576 := by
  unfold bigAddI; split
  · exact capI_len _
  · simp
theorem bigSubI_len (n : Bool) (xs : List Int) (m : Bool) (ys : List Int) : (bigSubI n xs m ys).mag.length ≤ 1048576 := by
  unfold bigSubI; split
  · exact capI_len _
  · simp

theorem bigMulB_of (n : Bool) (xs : List Int) (m : Bool) (ys : List Int) : bigMulB n xs m ys = ofI (toI n xs * toI m ys) := by unfold bigMulB; rw [mkBI_any, toI_mul]
/-- a big number's result stored into a box at block R -/
theorem big_endR {w w2 : World} {p : Option Addr} {c lo hi R : Nat} {xs : List Int} (hR : w.heap.size ≤ R) (hlo : R < lo) (ho : OwnI w2 lo hi (.slice p xs.length c) xs) (hh : hi ≤ w2.heap.size) (b : Below w.heap.size w w2) (u1 u2 : Value) :
    OwnI ((w2.setCell ⟨R, 0, none⟩ u1).setCell ⟨R, 1, none⟩ u2) w.heap.size ((w2.setCell ⟨R, 0, none⟩ u1).setCell ⟨R, 1, none⟩ u2).heap.size (.slice p xs.length c) xs ∧
      Below w.heap.size w ((w2.setCell ⟨R, 0, none⟩ u1).setCell ⟨R, 1, none⟩ u2) :=
  ⟨((ho.low hlo _).low hlo _).mono (by omega) (by simpa using hh), (b.setCell hR _).setCell hR _⟩
theorem zero_endR {w w2 : World} {R : Nat} (hR : w.heap.size ≤ R) (b : Below w.heap.size w w2) (u1 u2 : Value) :
    OwnI ((w2.setCell ⟨R, 0, none⟩ u1).setCell ⟨R, 1, none⟩ u2) w.heap.size ((w2.setCell ⟨R, 0, none⟩ u1).setCell ⟨R, 1, none⟩ u2).heap.size (.slice none 0 0) [] ∧
      Below w.heap.size w ((w2.setCell ⟨R, 0, none⟩ u1).setCell ⟨R, 1, none⟩ u2) :=
  ⟨(own_nil _ _).toI, (b.setCell hR _).setCell hR _⟩

section
variable (n : Bool) (a : Option Addr) (ca : Nat) (xs : List Int) (m : Bool) (b : Option Addr) (cb : Nat) (ys : List Int) (w : World) (ha : IntsAt w a ca xs) (hn : xs.length ≤ 500000) (hb : IntsAt w b cb ys) (hm : ys.length ≤ 500000) (hx : Rng xs) (hy : Rng ys)
include ha hn hb hm hx hy
theorem bigMul_int : Calls Tryz.prog 36 #[.agg #[.bool n, .slice a xs.length ca], .agg #[.bool m, .slice b ys.length cb]] w fun e w' => ∃ p c', e = .returned (.agg #[.bool (ofI (toI n xs * toI m ys)).neg, .slice p (ofI (toI n xs * toI m ys)).mag.length c']) ∧
    OwnI w' w.heap.size w'.heap.size (.slice p (ofI (toI n xs * toI m ys)).mag.length c') (ofI (toI n xs * toI m ys)).mag ∧ Below w.heap.size w w' := by
  rw [← bigMulB_of]
  exact bigMul_any n a ca xs m b cb ys w ha hn hb hm hx hy
end
end
section
open Go.RowKit
section
variable (n : Bool) (a : Option Addr) (ca : Nat) (xs : List Int) (m : Bool) (b : Option Addr) (cb : Nat) (ys : List Int) (w : World) (ha : IntsAt w a ca xs) (hn : xs.length ≤ 1048576) (hb : IntsAt w b cb ys) (hm : ys.length ≤ 1048576)
include ha hn hb hm
end
end
section
open Go.RowKit

theorem natAdd_out (a : Option Addr) (ca : Nat) (xs : List Int) (b : Option Addr) (cb : Nat) (ys : List Int) (w : World) (ha : IntsAt w a ca xs) (hb : IntsAt w b cb ys) (hn : xs.length ≤ 1048576) (hm : ys.length ≤ 1048576) (hx : digs (val xs) = xs) (hy : digs (val ys) = ys) :
    Calls Tryz.prog 77 #[.slice a xs.length ca, .slice b ys.length cb] w fun e w' => ∃ p c, e = .returned (.slice p (digs (val xs + val ys)).length c) ∧ OwnI w' w.heap.size w'.heap.size (.slice p (digs (val xs + val ys)).length c) (digs (val xs + val ys)) ∧ Below w.heap.size w w' := by
  have h := natAdd_any a ca b cb (val xs) (val ys) w (by rw [hx]; exact ha) (by rw [hy]; exact hb) (by rw [hx]; exact hn) (by rw [hy]; exact hm)
  rw [hx, hy] at h
  exact own_out h
theorem cmp_digs {xs ys : List Int} (hx : digs (val xs) = xs) (hy : digs (val ys) = ys) : cmpL xs ys = cmpN (val xs) (val ys) := by
  have := cmpL_digs (val xs) (val ys)
  rwa [hx, hy] at this
theorem cmp_ge {xs ys : List Int} (hx : digs (val xs) = xs) (hy : digs (val ys) = ys) (h : val ys ≤ val xs) : 0 ≤ cmpL xs ys := by
  rw [cmp_digs hx hy, cmpN, if_neg (by omega)]; split <;> omega
theorem cmp_neg {xs ys : List Int} (hx : digs (val xs) = xs) (hy : digs (val ys) = ys) (h : val xs < val ys) : cmpL xs ys < 0 := by
  rw [cmp_digs hx hy, cmpN, if_pos h]; omega
theorem rng_of {xs : List Int} (h : digs (val xs) = xs) : Rng xs := by rw [← h]; exact digs_rng _
theorem len_of_le {xs ys : List Int} (hx : digs (val xs) = xs) (hy : digs (val ys) = ys) (h : val ys ≤ val xs) : ys.length ≤ xs.length := le_of_cmp (rng_of hx) (rng_of hy) h hy hx
theorem digs_add_len {xs ys : List Int} (hx : Rng xs) (hy : Rng ys) {k : Nat} (h1 : xs.length ≤ k) (h2 : ys.length ≤ k) : (digs (val xs + val ys)).length ≤ k + 1 := by
  have a1 := val_lt hx
  have a2 := val_lt hy
  have b1 := pw_mono h1
  have b2 := pw_mono h2
  exact digs_len_le (by rw [pw_succ]; omega)
theorem digs_sub_len {xs : List Int} (hx : Rng xs) {k m : Nat} (h1 : xs.length ≤ k) : (digs (val xs - m)).length ≤ k := by
  have a1 := val_lt hx
  have b1 := pw_mono h1
  exact digs_len_le (by omega)
/-- what the reference makes of a sum's digits -/
theorem l03Make_val (n : Bool) (N : Nat) (a : Option Addr) (c : Nat) (xs : List Int) (w : World) (ha : IntsAt w a c xs) (hn : xs.length ≤ 1048576) (hr : Rng xs) (hv : val xs = N) :
    Calls Tryz.prog 86 #[.bool n, .slice a xs.length c] w fun e w' => ∃ b c', e = .returned (.agg #[.bool (mkBI n (capD N)).neg, .slice b (capD N).length c']) ∧
      OwnI w' w.heap.size w'.heap.size (.slice b (capD N).length c') (capD N) ∧ Below w.heap.size w w' := by
  subst hv
  exact l03Make_any n a c xs w ha hn hr
section
variable (n : Bool) (a : Option Addr) (ca : Nat) (xs : List Int) (m : Bool) (b : Option Addr) (cb : Nat) (ys : List Int) (w : World) (ha : IntsAt w a ca xs) (hn : xs.length ≤ 500000) (hb : IntsAt w b cb ys) (hm : ys.length ≤ 500000) (hx : digs (val xs) = xs) (hy : digs (val ys) = ys)
include ha hn hb hm hx hy
set_option maxHeartbeats 2000000 in
theorem bigAdd_any : Calls Tryz.prog 57 #[.agg #[.bool n, .slice a xs.length ca], .agg #[.bool m, .slice b ys.length cb]] w fun e w' => ∃ p c', e = .returned (.agg #[.bool (ofI (toI n xs + toI m ys)).neg, .slice p (ofI (toI n xs + toI m ys)).mag.length c']) ∧
    OwnI w' w.heap.size w'.heap.size (.slice p (ofI (toI n xs + toI m ys)).mag.length c') (ofI (toI n xs + toI m ys)).mag ∧ Below w.heap.size w w' := by
  have HA := Lib.hid ha
  have HB := Lib.hid hb
  have HX := Lib.hid hx
  have HY := Lib.hid hy
  have RX := Lib.hid (rng_of hx)
  have RY := Lib.hid (rng_of hy)
  clear ha hb hx hy
  by_cases h1 : n = m
  · subst h1
    rw [toI_same, ← mkBI_any]
    have Rx : Box (((w.alloc (.cells #[.bool n, .slice a xs.length ca] 25)).alloc (.cells #[.bool n, .slice b ys.length cb] 25)).alloc (.cells #[.bool false, .slice none 0 0] 25)) (w.heap.size) #[.bool n, .slice a xs.length ca] := bx3_0 (Below.refl _ _)
    have Ry : Box (((w.alloc (.cells #[.bool n, .slice a xs.length ca] 25)).alloc (.cells #[.bool n, .slice b ys.length cb] 25)).alloc (.cells #[.bool false, .slice none 0 0] 25)) (w.heap.size + 1) #[.bool n, .slice b ys.length cb] := bx3_1 (Below.refl _ _)
    have Rr : Box (((w.alloc (.cells #[.bool n, .slice a xs.length ca] 25)).alloc (.cells #[.bool n, .slice b ys.length cb] 25)).alloc (.cells #[.bool false, .slice none 0 0] 25)) (w.heap.size + 2) #[.bool false, .slice none 0 0] := bx3_2 (Below.refl _ _)
    have B : Hid (Below w.heap.size w (((w.alloc (.cells #[.bool n, .slice a xs.length ca] 25)).alloc (.cells #[.bool n, .slice b ys.length cb] 25)).alloc (.cells #[.bool false, .slice none 0 0] 25))) := Lib.hid (ba3 _ _ _ _)
    have Yx0 : (((w.alloc (.cells #[.bool n, .slice a xs.length ca] 25)).alloc (.cells #[.bool n, .slice b ys.length cb] 25)).alloc (.cells #[.bool false, .slice none 0 0] 25)).cell? ⟨w.heap.size, 0, none⟩ = some (.bool n) := Rx.cell 0 rfl
    have Yx1 : (((w.alloc (.cells #[.bool n, .slice a xs.length ca] 25)).alloc (.cells #[.bool n, .slice b ys.length cb] 25)).alloc (.cells #[.bool false, .slice none 0 0] 25)).cell? ⟨w.heap.size, 1, none⟩ = some (.slice a xs.length ca) := Rx.cell 1 rfl
    have Yy0 : (((w.alloc (.cells #[.bool n, .slice a xs.length ca] 25)).alloc (.cells #[.bool n, .slice b ys.length cb] 25)).alloc (.cells #[.bool false, .slice none 0 0] 25)).cell? ⟨w.heap.size + 1, 0, none⟩ = some (.bool n) := Ry.cell 0 rfl
    have Yy1 : (((w.alloc (.cells #[.bool n, .slice a xs.length ca] 25)).alloc (.cells #[.bool n, .slice b ys.length cb] 25)).alloc (.cells #[.bool false, .slice none 0 0] 25)).cell? ⟨w.heap.size + 1, 1, none⟩ = some (.slice b ys.length cb) := Ry.cell 1 rfl
    have Yr0 : (((w.alloc (.cells #[.bool n, .slice a xs.length ca] 25)).alloc (.cells #[.bool n, .slice b ys.length cb] 25)).alloc (.cells #[.bool false, .slice none 0 0] 25)).cell? ⟨w.heap.size + 2, 0, none⟩ = some (.bool false) := Rr.cell 0 rfl
    have Yr1 : (((w.alloc (.cells #[.bool n, .slice a xs.length ca] 25)).alloc (.cells #[.bool n, .slice b ys.length cb] 25)).alloc (.cells #[.bool false, .slice none 0 0] 25)).cell? ⟨w.heap.size + 2, 1, none⟩ = some (.slice none 0 0) := Rr.cell 1 rfl
    go_enter Tryz.func57, Tryz.ntmps57
    go_wp2_with fail
    go_region_held3 (fun w' => w'.cell? ⟨w.heap.size, 0, none⟩ = some (.bool n) ∧ w'.cell? ⟨w.heap.size, 1, none⟩ = some (.slice a xs.length ca) ∧ w'.cell? ⟨w.heap.size + 1, 0, none⟩ = some (.bool n) ∧ w'.cell? ⟨w.heap.size + 1, 1, none⟩ = some (.slice b ys.length cb))
      ((first | exact ⟨Yx0, Yx1, Yy0, Yy1⟩ | exact ⟨cell_stepD Yx0 b15, cell_stepD Yx1 b15, cell_stepD Yy0 b15, cell_stepD Yy1 b15⟩ | exact ⟨cell_step (cell_stepD Yx0 b15) b16, cell_step (cell_stepD Yx1 b15) b16, cell_step (cell_stepD Yy0 b15) b16, cell_step (cell_stepD Yy1 b15) b16⟩ | exact ⟨cell_low (cell_low (cell_step (cell_stepD Yx0 b15) b16) (by first | (simp; done) | (simp; omega) | omega)) (by first | (simp; done) | (simp; omega) | omega), cell_low (cell_low (cell_step (cell_stepD Yx1 b15) b16) (by first | (simp; done) | (simp; omega) | omega)) (by first | (simp; done) | (simp; omega) | omega), cell_low (cell_low (cell_step (cell_stepD Yy0 b15) b16) (by first | (simp; done) | (simp; omega) | omega)) (by first | (simp; done) | (simp; omega) | omega), cell_low (cell_low (cell_step (cell_stepD Yy1 b15) b16) (by first | (simp; done) | (simp; omega) | omega)) (by first | (simp; done) | (simp; omega) | omega)⟩))
      (first | (go_at_call 77; refine (natAdd_out a ca xs b cb ys _ (HA.out.below (B.out.drew)) (HB.out.below (B.out.drew)) (by omega) (by omega) HX.out HY.out).mono ?_; rintro e W15 ⟨p, c', rfl, hO, b15⟩; have s15 := b15.size; (try simp at s15)) | (go_at_call 58; refine (signed_any n p (digs (val xs + val ys)).length c' _).mono ?_; rintro e W16 ⟨rfl, b16⟩; have s16 := b16.size; (try simp at s16); have Rr := (box_step (box_step (box_drew Rr) b15) b16); have Yr0 := Rr.cell 0 rfl; have Fr0 := Rr.frozen 0; have Yr1 := Rr.cell 1 rfl; have Fr1 := Rr.frozen 1; have Lr := Rr.lt))
    have sb15 := b15.size
    try simp at sb15
    have sb16 := b16.size
    have O := Lib.hid ((hO.below b16))
    clear hO
    have B := Lib.hid (bstep (bstepD B.out b15) b16)
    clear b15 b16
    go_wp2
    refine bodyPost_ret (v := .agg #[.bool (mkBI n (digs (val xs + val ys))).neg, .slice p (digs (val xs + val ys)).length c']) (by simp [results, Tryz.results57, go_sem, Yr0, Yr1, Lr, mkBI]) rfl ⟨p, c', rfl, big_endR (by first | omega | (simp; done) | (simp; omega)) (by first | omega | (simp; done) | (simp; omega)) O.out (by first | omega | (simp; done) | (simp; omega)) B.out _ _⟩
  · have hne : (n == m) = false := beq_eq_false_iff_ne.2 h1
    by_cases h2 : val ys ≤ val xs
    · rw [toI_first h1 h2, ← mkBI_any]
      have hc := cmp_ge HX.out HY.out h2
      have HL := Lib.hid (len_of_le HX.out HY.out h2)
      have H2 := Lib.hid h2
      clear h1 h2
      have Rx : Box (((w.alloc (.cells #[.bool n, .slice a xs.length ca] 25)).alloc (.cells #[.bool m, .slice b ys.length cb] 25)).alloc (.cells #[.bool false, .slice none 0 0] 25)) (w.heap.size) #[.bool n, .slice a xs.length ca] := bx3_0 (Below.refl _ _)
      have Ry : Box (((w.alloc (.cells #[.bool n, .slice a xs.length ca] 25)).alloc (.cells #[.bool m, .slice b ys.length cb] 25)).alloc (.cells #[.bool false, .slice none 0 0] 25)) (w.heap.size + 1) #[.bool m, .slice b ys.length cb] := bx3_1 (Below.refl _ _)
      have Rr : Box (((w.alloc (.cells #[.bool n, .slice a xs.length ca] 25)).alloc (.cells #[.bool m, .slice b ys.length cb] 25)).alloc (.cells #[.bool false, .slice none 0 0] 25)) (w.heap.size + 2) #[.bool false, .slice none 0 0] := bx3_2 (Below.refl _ _)
      have B : Hid (Below w.heap.size w (((w.alloc (.cells #[.bool n, .slice a xs.length ca] 25)).alloc (.cells #[.bool m, .slice b ys.length cb] 25)).alloc (.cells #[.bool false, .slice none 0 0] 25))) := Lib.hid (ba3 _ _ _ _)
      have Yx0 : (((w.alloc (.cells #[.bool n, .slice a xs.length ca] 25)).alloc (.cells #[.bool m, .slice b ys.length cb] 25)).alloc (.cells #[.bool false, .slice none 0 0] 25)).cell? ⟨w.heap.size, 0, none⟩ = some (.bool n) := Rx.cell 0 rfl
      have Yx1 : (((w.alloc (.cells #[.bool n, .slice a xs.length ca] 25)).alloc (.cells #[.bool m, .slice b ys.length cb] 25)).alloc (.cells #[.bool false, .slice none 0 0] 25)).cell? ⟨w.heap.size, 1, none⟩ = some (.slice a xs.length ca) := Rx.cell 1 rfl
      have Yy0 : (((w.alloc (.cells #[.bool n, .slice a xs.length ca] 25)).alloc (.cells #[.bool m, .slice b ys.length cb] 25)).alloc (.cells #[.bool false, .slice none 0 0] 25)).cell? ⟨w.heap.size + 1, 0, none⟩ = some (.bool m) := Ry.cell 0 rfl
      have Yy1 : (((w.alloc (.cells #[.bool n, .slice a xs.length ca] 25)).alloc (.cells #[.bool m, .slice b ys.length cb] 25)).alloc (.cells #[.bool false, .slice none 0 0] 25)).cell? ⟨w.heap.size + 1, 1, none⟩ = some (.slice b ys.length cb) := Ry.cell 1 rfl
      have Yr0 : (((w.alloc (.cells #[.bool n, .slice a xs.length ca] 25)).alloc (.cells #[.bool m, .slice b ys.length cb] 25)).alloc (.cells #[.bool false, .slice none 0 0] 25)).cell? ⟨w.heap.size + 2, 0, none⟩ = some (.bool false) := Rr.cell 0 rfl
      have Yr1 : (((w.alloc (.cells #[.bool n, .slice a xs.length ca] 25)).alloc (.cells #[.bool m, .slice b ys.length cb] 25)).alloc (.cells #[.bool false, .slice none 0 0] 25)).cell? ⟨w.heap.size + 2, 1, none⟩ = some (.slice none 0 0) := Rr.cell 1 rfl
      go_enter Tryz.func57, Tryz.ntmps57
      go_wp2_with fail
      refine (natCmp_any a ca xs b cb ys _ (HA.out.below B.out) (HB.out.below B.out) (by omega) (by omega)).mono ?_
      rintro e W17 ⟨rfl, b17⟩
      clear Yx0 Yx1 Yy0 Yy1 Yr0 Yr1
      have Rx := box_step Rx b17
      have Ry := box_step Ry b17
      have Rr := box_step Rr b17
      have B := Lib.hid (bstep B.out b17)
      have sb17 := b17.size
      have Yx0 := Rx.cell 0 rfl
      have Yx1 := Rx.cell 1 rfl
      have Lx := Rx.lt
      have Yy0 := Ry.cell 0 rfl
      have Yy1 := Ry.cell 1 rfl
      have Ly := Ry.lt
      have Yr0 := Rr.cell 0 rfl
      have Yr1 := Rr.cell 1 rfl
      have Lr := Rr.lt
      have Fr0 := Rr.frozen 0
      have Fr1 := Rr.frozen 1
      clear b17
      go_wp2_with fail
      go_region_held3 (fun w' => w'.cell? ⟨w.heap.size, 0, none⟩ = some (.bool n) ∧ w'.cell? ⟨w.heap.size, 1, none⟩ = some (.slice a xs.length ca) ∧ w'.cell? ⟨w.heap.size + 1, 0, none⟩ = some (.bool m) ∧ w'.cell? ⟨w.heap.size + 1, 1, none⟩ = some (.slice b ys.length cb))
        ((first | exact ⟨Yx0, Yx1, Yy0, Yy1⟩ | exact ⟨cell_stepD Yx0 b18, cell_stepD Yx1 b18, cell_stepD Yy0 b18, cell_stepD Yy1 b18⟩ | exact ⟨cell_step (cell_stepD Yx0 b18) b19, cell_step (cell_stepD Yx1 b18) b19, cell_step (cell_stepD Yy0 b18) b19, cell_step (cell_stepD Yy1 b18) b19⟩ | exact ⟨cell_low (cell_low (cell_step (cell_stepD Yx0 b18) b19) (by first | (simp; done) | (simp; omega) | omega)) (by first | (simp; done) | (simp; omega) | omega), cell_low (cell_low (cell_step (cell_stepD Yx1 b18) b19) (by first | (simp; done) | (simp; omega) | omega)) (by first | (simp; done) | (simp; omega) | omega), cell_low (cell_low (cell_step (cell_stepD Yy0 b18) b19) (by first | (simp; done) | (simp; omega) | omega)) (by first | (simp; done) | (simp; omega) | omega), cell_low (cell_low (cell_step (cell_stepD Yy1 b18) b19) (by first | (simp; done) | (simp; omega) | omega)) (by first | (simp; done) | (simp; omega) | omega)⟩))
        (first | (go_at_call 79; refine (own_out (natSub_any a ca xs b cb ys _ (HA.out.below (B.out.drew)) (HB.out.below (B.out.drew)) (by omega) HL.out RX.out RY.out H2.out)).mono ?_; rintro e W18 ⟨p, c', rfl, hO, b18⟩; have s18 := b18.size; (try simp at s18)) | (go_at_call 58; refine (signed_any n p (digs (val xs - val ys)).length c' _).mono ?_; rintro e W19 ⟨rfl, b19⟩; have s19 := b19.size; (try simp at s19); have Rr := (box_step (box_step (box_drew Rr) b18) b19); have Yr0 := Rr.cell 0 rfl; have Fr0 := Rr.frozen 0; have Yr1 := Rr.cell 1 rfl; have Fr1 := Rr.frozen 1; have Lr := Rr.lt))
      have sb18 := b18.size
      try simp at sb18
      have sb19 := b19.size
      have O := Lib.hid ((hO.below b19))
      clear hO
      have B := Lib.hid (bstep (bstepD B.out b18) b19)
      clear b18 b19
      go_wp2
      refine bodyPost_ret (v := .agg #[.bool (mkBI n (digs (val xs - val ys))).neg, .slice p (digs (val xs - val ys)).length c']) (by simp [results, Tryz.results57, go_sem, Yr0, Yr1, Lr, mkBI]) rfl ⟨p, c', rfl, big_endR (by first | omega | (simp; done) | (simp; omega)) (by first | omega | (simp; done) | (simp; omega)) O.out (by first | omega | (simp; done) | (simp; omega)) B.out _ _⟩
    · have h3 : val xs < val ys := by omega
      rw [toI_second h1 (by omega), ← mkBI_any]
      have hc := cmp_neg HX.out HY.out h3
      have HL := Lib.hid (len_of_le HY.out HX.out (by omega))
      have H2 : Hid (val xs ≤ val ys) := by unfold Hid; omega
      clear h1 h2 h3
      have Rx : Box (((w.alloc (.cells #[.bool n, .slice a xs.length ca] 25)).alloc (.cells #[.bool m, .slice b ys.length cb] 25)).alloc (.cells #[.bool false, .slice none 0 0] 25)) (w.heap.size) #[.bool n, .slice a xs.length ca] := bx3_0 (Below.refl _ _)
      have Ry : Box (((w.alloc (.cells #[.bool n, .slice a xs.length ca] 25)).alloc (.cells #[.bool m, .slice b ys.length cb] 25)).alloc (.cells #[.bool false, .slice none 0 0] 25)) (w.heap.size + 1) #[.bool m, .slice b ys.length cb] := bx3_1 (Below.refl _ _)
      have Rr : Box (((w.alloc (.cells #[.bool n, .slice a xs.length ca] 25)).alloc (.cells #[.bool m, .slice b ys.length cb] 25)).alloc (.cells #[.bool false, .slice none 0 0] 25)) (w.heap.size + 2) #[.bool false, .slice none 0 0] := bx3_2 (Below.refl _ _)
      have B : Hid (Below w.heap.size w (((w.alloc (.cells #[.bool n, .slice a xs.length ca] 25)).alloc (.cells #[.bool m, .slice b ys.length cb] 25)).alloc (.cells #[.bool false, .slice none 0 0] 25))) := Lib.hid (ba3 _ _ _ _)
      have Yx0 : (((w.alloc (.cells #[.bool n, .slice a xs.length ca] 25)).alloc (.cells #[.bool m, .slice b ys.length cb] 25)).alloc (.cells #[.bool false, .slice none 0 0] 25)).cell? ⟨w.heap.size, 0, none⟩ = some (.bool n) := Rx.cell 0 rfl
      have Yx1 : (((w.alloc (.cells #[.bool n, .slice a xs.length ca] 25)).alloc (.cells #[.bool m, .slice b ys.length cb] 25)).alloc (.cells #[.bool false, .slice none 0 0] 25)).cell? ⟨w.heap.size, 1, none⟩ = some (.slice a xs.length ca) := Rx.cell 1 rfl
      have Yy0 : (((w.alloc (.cells #[.bool n, .slice a xs.length ca] 25)).alloc (.cells #[.bool m, .slice b ys.length cb] 25)).alloc (.cells #[.bool false, .slice none 0 0] 25)).cell? ⟨w.heap.size + 1, 0, none⟩ = some (.bool m) := Ry.cell 0 rfl
      have Yy1 : (((w.alloc (.cells #[.bool n, .slice a xs.length ca] 25)).alloc (.cells #[.bool m, .slice b ys.length cb] 25)).alloc (.cells #[.bool false, .slice none 0 0] 25)).cell? ⟨w.heap.size + 1, 1, none⟩ = some (.slice b ys.length cb) := Ry.cell 1 rfl
      have Yr0 : (((w.alloc (.cells #[.bool n, .slice a xs.length ca] 25)).alloc (.cells #[.bool m, .slice b ys.length cb] 25)).alloc (.cells #[.bool false, .slice none 0 0] 25)).cell? ⟨w.heap.size + 2, 0, none⟩ = some (.bool false) := Rr.cell 0 rfl
      have Yr1 : (((w.alloc (.cells #[.bool n, .slice a xs.length ca] 25)).alloc (.cells #[.bool m, .slice b ys.length cb] 25)).alloc (.cells #[.bool false, .slice none 0 0] 25)).cell? ⟨w.heap.size + 2, 1, none⟩ = some (.slice none 0 0) := Rr.cell 1 rfl
      go_enter Tryz.func57, Tryz.ntmps57
      go_wp2_with fail
      refine (natCmp_any a ca xs b cb ys _ (HA.out.below B.out) (HB.out.below B.out) (by omega) (by omega)).mono ?_
      rintro e W20 ⟨rfl, b20⟩
      clear Yx0 Yx1 Yy0 Yy1 Yr0 Yr1
      have Rx := box_step Rx b20
      have Ry := box_step Ry b20
      have Rr := box_step Rr b20
      have B := Lib.hid (bstep B.out b20)
      have sb20 := b20.size
      have Yx0 := Rx.cell 0 rfl
      have Yx1 := Rx.cell 1 rfl
      have Lx := Rx.lt
      have Yy0 := Ry.cell 0 rfl
      have Yy1 := Ry.cell 1 rfl
      have Ly := Ry.lt
      have Yr0 := Rr.cell 0 rfl
      have Yr1 := Rr.cell 1 rfl
      have Lr := Rr.lt
      have Fr0 := Rr.frozen 0
      have Fr1 := Rr.frozen 1
      clear b20
      go_wp2_with fail
      go_region_held3 (fun w' => w'.cell? ⟨w.heap.size, 0, none⟩ = some (.bool n) ∧ w'.cell? ⟨w.heap.size, 1, none⟩ = some (.slice a xs.length ca) ∧ w'.cell? ⟨w.heap.size + 1, 0, none⟩ = some (.bool m) ∧ w'.cell? ⟨w.heap.size + 1, 1, none⟩ = some (.slice b ys.length cb))
        ((first | exact ⟨Yx0, Yx1, Yy0, Yy1⟩ | exact ⟨cell_stepD Yx0 b21, cell_stepD Yx1 b21, cell_stepD Yy0 b21, cell_stepD Yy1 b21⟩ | exact ⟨cell_step (cell_stepD Yx0 b21) b22, cell_step (cell_stepD Yx1 b21) b22, cell_step (cell_stepD Yy0 b21) b22, cell_step (cell_stepD Yy1 b21) b22⟩ | exact ⟨cell_low (cell_low (cell_step (cell_stepD Yx0 b21) b22) (by first | (simp; done) | (simp; omega) | omega)) (by first | (simp; done) | (simp; omega) | omega), cell_low (cell_low (cell_step (cell_stepD Yx1 b21) b22) (by first | (simp; done) | (simp; omega) | omega)) (by first | (simp; done) | (simp; omega) | omega), cell_low (cell_low (cell_step (cell_stepD Yy0 b21) b22) (by first | (simp; done) | (simp; omega) | omega)) (by first | (simp; done) | (simp; omega) | omega), cell_low (cell_low (cell_step (cell_stepD Yy1 b21) b22) (by first | (simp; done) | (simp; omega) | omega)) (by first | (simp; done) | (simp; omega) | omega)⟩))
        (first | (go_at_call 79; refine (own_out (natSub_any b cb ys a ca xs _ (HB.out.below (B.out.drew)) (HA.out.below (B.out.drew)) (by omega) HL.out RY.out RX.out H2.out)).mono ?_; rintro e W21 ⟨p, c', rfl, hO, b21⟩; have s21 := b21.size; (try simp at s21)) | (go_at_call 58; refine (signed_any m p (digs (val ys - val xs)).length c' _).mono ?_; rintro e W22 ⟨rfl, b22⟩; have s22 := b22.size; (try simp at s22); have Rr := (box_step (box_step (box_drew Rr) b21) b22); have Yr0 := Rr.cell 0 rfl; have Fr0 := Rr.frozen 0; have Yr1 := Rr.cell 1 rfl; have Fr1 := Rr.frozen 1; have Lr := Rr.lt))
      have sb21 := b21.size
      try simp at sb21
      have sb22 := b22.size
      have O := Lib.hid ((hO.below b22))
      clear hO
      have B := Lib.hid (bstep (bstepD B.out b21) b22)
      clear b21 b22
      go_wp2
      refine bodyPost_ret (v := .agg #[.bool (mkBI m (digs (val ys - val xs))).neg, .slice p (digs (val ys - val xs)).length c']) (by simp [results, Tryz.results57, go_sem, Yr0, Yr1, Lr, mkBI]) rfl ⟨p, c', rfl, big_endR (by first | omega | (simp; done) | (simp; omega)) (by first | omega | (simp; done) | (simp; omega)) O.out (by first | omega | (simp; done) | (simp; omega)) B.out _ _⟩
end
section
variable (n : Bool) (a : Option Addr) (ca : Nat) (xs : List Int) (m : Bool) (b : Option Addr) (cb : Nat) (ys : List Int) (w : World) (ha : IntsAt w a ca xs) (hn : xs.length ≤ 1048576) (hb : IntsAt w b cb ys) (hm : ys.length ≤ 1048576)
include ha hn hb hm
end
end
end Go.Proofs.YtehhpkeabckdaaaGreatDoor
